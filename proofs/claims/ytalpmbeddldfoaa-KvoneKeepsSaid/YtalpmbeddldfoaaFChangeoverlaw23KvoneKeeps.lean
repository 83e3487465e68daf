-- A text that a program wrote for this claim (print.py over stand-in bodies, tool/pr.sh).
import Derived.Test.YtalpmbeddldfoaaF0
import Derived.Test.YtalpmbeddldfoaaFEq3
import Derived.Test.YtalpmbeddldfoaaFChangeoverref23Large
import Derived.Test.YtalpmbeddldfoaaFChangeoverlaw23Large
import Derived.Test.YtalpmbeddldfoaaFChangeoverref23Rise
import Derived.Test.YtalpmbeddldfoaaFKvoneFind
import Derived.Test.YtalpmbeddldfoaaFKvoneDo
import Derived.Test.YtalpmbeddldfoaaFChangeoverlaw23Awake
import Derived.Test.YtalpmbeddldfoaaFChangeoverref23Check
namespace Go.Proofs.Ytalpmbeddldfoaa.PA
open Go.RowKit Go.Proofs.Ytalpmbeddldfoaa.Hand Go.Proofs.YtalpmbeddldfoaaW.PrintWords Go.Proofs.YtalpmbeddldfoaaW.PrintLast Go.Proofs.YtalpmbeddldfoaaW.PrintMore
attribute [local go_sem] max2_int min2_int max_two min_two max_three min_three max_four min_four   -- for this text's walks alone
attribute [local go_sem high] str_leq str_gtr str_geq
set_option linter.unusedVariables false
set_option linter.unusedSimpArgs false

attribute [local go_sem high] eqA78
/-! ### changeoverlaw23_KvoneKeeps: function 10 -/
mutual
def changeoverlaw23_KvoneKeeps.j0 : Nat → List (S78) → ByteArray → Bool → Int → Int → Int → ByteArray → ByteArray → ByteArray → Int → Option (Bool)
  | 0, _, _, _, _, _, _, _, _, _, _ => none
  | k + 1, x0, x2, x31, x588000, x588001, x588002, x588003, x588004, x588005, x588006 => if x31 = true then ((changeoverlaw23_awake.f k).bind fun t591 => (some t591)) else ((kvone_Do.f k x0 x588000 x588001 x588002 x588003 x588004 x588005 x588006).bind fun bt592 => ((kvone_Find.f k bt592.1 x588003).bind fun bt602 => ((kvone_Find.f k bt592.1 x2).bind fun bt607 => ((kvone_Find.f k x0 x2).bind fun bt612 => (if x2.toList = x588003.toList then (if x588000 = 2 then (if bt592.2.2.2.1 = 0 then (if bt602.2.2.2 = true then (if bt602.2.1.toList = x588004.toList then (if x588000 = 4 then (changeoverlaw23_KvoneKeeps.j1 k x0 bt592.1 bt602.2.2.2 x588000 x588001 x588002 x588003 x588004 x588005 x588006) else (changeoverlaw23_KvoneKeeps.j1 k x0 bt592.1 false x588000 x588001 x588002 x588003 x588004 x588005 x588006)) else (changeoverlaw23_KvoneKeeps.j1 k x0 bt592.1 true x588000 x588001 x588002 x588003 x588004 x588005 x588006)) else (changeoverlaw23_KvoneKeeps.j1 k x0 bt592.1 true x588000 x588001 x588002 x588003 x588004 x588005 x588006)) else (if x588000 = 4 then (changeoverlaw23_KvoneKeeps.j1 k x0 bt592.1 bt602.2.2.2 x588000 x588001 x588002 x588003 x588004 x588005 x588006) else (changeoverlaw23_KvoneKeeps.j1 k x0 bt592.1 false x588000 x588001 x588002 x588003 x588004 x588005 x588006))) else (if x588000 = 4 then (changeoverlaw23_KvoneKeeps.j1 k x0 bt592.1 bt602.2.2.2 x588000 x588001 x588002 x588003 x588004 x588005 x588006) else (changeoverlaw23_KvoneKeeps.j1 k x0 bt592.1 false x588000 x588001 x588002 x588003 x588004 x588005 x588006))) else (if (!(bt607.1.toList == bt612.1.toList) || (!(bt607.2.1.toList == bt612.2.1.toList) || (!(bt607.2.2.1 == bt612.2.2.1)))) = true then (changeoverlaw23_KvoneKeeps.j1 k x0 bt592.1 true x588000 x588001 x588002 x588003 x588004 x588005 x588006) else (if (bt607.2.2.2 != bt612.2.2.2) = true then (changeoverlaw23_KvoneKeeps.j1 k x0 bt592.1 true x588000 x588001 x588002 x588003 x588004 x588005 x588006) else (if x588000 = 2 then (if bt592.2.2.2.1 = 0 then (if bt602.2.2.2 = true then (if bt602.2.1.toList = x588004.toList then (if x588000 = 4 then (changeoverlaw23_KvoneKeeps.j1 k x0 bt592.1 bt602.2.2.2 x588000 x588001 x588002 x588003 x588004 x588005 x588006) else (changeoverlaw23_KvoneKeeps.j1 k x0 bt592.1 false x588000 x588001 x588002 x588003 x588004 x588005 x588006)) else (changeoverlaw23_KvoneKeeps.j1 k x0 bt592.1 true x588000 x588001 x588002 x588003 x588004 x588005 x588006)) else (changeoverlaw23_KvoneKeeps.j1 k x0 bt592.1 true x588000 x588001 x588002 x588003 x588004 x588005 x588006)) else (if x588000 = 4 then (changeoverlaw23_KvoneKeeps.j1 k x0 bt592.1 bt602.2.2.2 x588000 x588001 x588002 x588003 x588004 x588005 x588006) else (changeoverlaw23_KvoneKeeps.j1 k x0 bt592.1 false x588000 x588001 x588002 x588003 x588004 x588005 x588006))) else (if x588000 = 4 then (changeoverlaw23_KvoneKeeps.j1 k x0 bt592.1 bt602.2.2.2 x588000 x588001 x588002 x588003 x588004 x588005 x588006) else (changeoverlaw23_KvoneKeeps.j1 k x0 bt592.1 false x588000 x588001 x588002 x588003 x588004 x588005 x588006))))))))))
def changeoverlaw23_KvoneKeeps.j1 : Nat → List (S78) → List (S78) → Bool → Int → Int → Int → ByteArray → ByteArray → ByteArray → Int → Option (Bool)
  | 0, _, _, _, _, _, _, _, _, _, _ => none
  | k + 1, x0, x7, x100, x588000, x588001, x588002, x588003, x588004, x588005, x588006 => if x100 = true then (some false) else ((changeoverref23_Check.f k 1 x0).bind fun t617 => (if t617 = true then (if x588000 = 2 then ((changeoverref23_Check.f k 1 (([(⟨x588003, x588004, 0⟩ : S78)] : List (S78)))).bind fun t621 => (if t621 = true then ((changeoverref23_Check.f k 1 x7).bind fun t622 => (if t622 = true then ((changeoverlaw23_awake.f k).bind fun t623 => (some t623)) else (some false))) else ((changeoverlaw23_awake.f k).bind fun t624 => (some t624)))) else ((changeoverref23_Check.f k 1 x7).bind fun t625 => (if t625 = true then ((changeoverlaw23_awake.f k).bind fun t626 => (some t626)) else (some false)))) else ((changeoverlaw23_awake.f k).bind fun t627 => (some t627))))
end
def changeoverlaw23_KvoneKeeps.f (k : Nat) (l0 : List (S78)) (a1_0 : Int) (a1_1 : Int) (a1_2 : Int) (a1_3 : ByteArray) (a1_4 : ByteArray) (a1_5 : ByteArray) (a1_6 : Int) (a2 : ByteArray) : Option (Bool) := (changeoverref23_Large.f k l0).bind fun t588 => (if t588 = true then (changeoverlaw23_KvoneKeeps.j0 k l0 a2 true a1_0 a1_1 a1_2 a1_3 a1_4 a1_5 a1_6) else ((changeoverlaw23_large.f a1_0 a1_1 a1_2 a1_3 a1_4 a1_5 a1_6).bind fun t589 => (if t589 = true then (changeoverlaw23_KvoneKeeps.j0 k l0 a2 true a1_0 a1_1 a1_2 a1_3 a1_4 a1_5 a1_6) else (if (a2.size : Int) > 200 then (changeoverlaw23_KvoneKeeps.j0 k l0 a2 true a1_0 a1_1 a1_2 a1_3 a1_4 a1_5 a1_6) else ((changeoverref23_Rise.f k l0).bind fun t590 => (changeoverlaw23_KvoneKeeps.j0 k l0 a2 (!t590) a1_0 a1_1 a1_2 a1_3 a1_4 a1_5 a1_6))))))
theorem changeoverlaw23_KvoneKeeps.mono_l : ∀ k, (∀ y0 y1 y2 y3 y4 y5 y6 y7 y8 y9, LeO (changeoverlaw23_KvoneKeeps.j0 k y0 y1 y2 y3 y4 y5 y6 y7 y8 y9) (changeoverlaw23_KvoneKeeps.j0 (k + 1) y0 y1 y2 y3 y4 y5 y6 y7 y8 y9)) ∧ (∀ y0 y1 y2 y3 y4 y5 y6 y7 y8 y9, LeO (changeoverlaw23_KvoneKeeps.j1 k y0 y1 y2 y3 y4 y5 y6 y7 y8 y9) (changeoverlaw23_KvoneKeeps.j1 (k + 1) y0 y1 y2 y3 y4 y5 y6 y7 y8 y9))
  | 0 => ⟨fun _ _ _ _ _ _ _ _ _ _ r h => by simp [changeoverlaw23_KvoneKeeps.j0] at h, fun _ _ _ _ _ _ _ _ _ _ r h => by simp [changeoverlaw23_KvoneKeeps.j1] at h⟩
  | k + 1 => by
    obtain ⟨ih0, ih1⟩ := changeoverlaw23_KvoneKeeps.mono_l k
    refine ⟨?_, ?_⟩
    · intro y0 y1 y2 y3 y4 y5 y6 y7 y8 y9
      unfold changeoverlaw23_KvoneKeeps.j0
      repeat' first
      | (with_reducible exact ih0 _ _ _ _ _ _ _ _ _ _)
      | (with_reducible exact ih1 _ _ _ _ _ _ _ _ _ _)
      | (with_reducible exact changeoverlaw23_awake.mono _)
      | (with_reducible exact changeoverref23_Check.mono _ _ _)
      | (with_reducible exact changeoverref23_Large.mono _ _)
      | (with_reducible exact changeoverref23_Rise.mono _ _)
      | (with_reducible exact kvone_Do.mono _ _ _ _ _ _ _ _ _)
      | (with_reducible exact kvone_Find.mono _ _ _)
      | (with_reducible exact LeO.refl _)
      | (with_reducible exact LeO.none _)
      | (with_reducible refine LeO.ite ?_ ?_)
      | (with_reducible refine LeO.bind ?_ (fun _ => ?_))
      | exact ih0 _ _ _ _ _ _ _ _ _ _
      | exact ih1 _ _ _ _ _ _ _ _ _ _
      | exact changeoverlaw23_awake.mono _
      | exact changeoverref23_Check.mono _ _ _
      | exact changeoverref23_Large.mono _ _
      | exact changeoverref23_Rise.mono _ _
      | exact kvone_Do.mono _ _ _ _ _ _ _ _ _
      | exact kvone_Find.mono _ _ _
      | exact LeO.none _
      | refine LeO.ite ?_ ?_
      | refine LeO.bind ?_ (fun _ => ?_)
    · intro y0 y1 y2 y3 y4 y5 y6 y7 y8 y9
      unfold changeoverlaw23_KvoneKeeps.j1
      repeat' first
      | (with_reducible exact ih0 _ _ _ _ _ _ _ _ _ _)
      | (with_reducible exact ih1 _ _ _ _ _ _ _ _ _ _)
      | (with_reducible exact changeoverlaw23_awake.mono _)
      | (with_reducible exact changeoverref23_Check.mono _ _ _)
      | (with_reducible exact changeoverref23_Large.mono _ _)
      | (with_reducible exact changeoverref23_Rise.mono _ _)
      | (with_reducible exact kvone_Do.mono _ _ _ _ _ _ _ _ _)
      | (with_reducible exact kvone_Find.mono _ _ _)
      | (with_reducible exact LeO.refl _)
      | (with_reducible exact LeO.none _)
      | (with_reducible refine LeO.ite ?_ ?_)
      | (with_reducible refine LeO.bind ?_ (fun _ => ?_))
      | exact ih0 _ _ _ _ _ _ _ _ _ _
      | exact ih1 _ _ _ _ _ _ _ _ _ _
      | exact changeoverlaw23_awake.mono _
      | exact changeoverref23_Check.mono _ _ _
      | exact changeoverref23_Large.mono _ _
      | exact changeoverref23_Rise.mono _ _
      | exact kvone_Do.mono _ _ _ _ _ _ _ _ _
      | exact kvone_Find.mono _ _ _
      | exact LeO.none _
      | refine LeO.ite ?_ ?_
      | refine LeO.bind ?_ (fun _ => ?_)
theorem changeoverlaw23_KvoneKeeps.mono : ∀ a0 a1 a2 a3 a4 a5 a6 a7 a8 k, LeO (changeoverlaw23_KvoneKeeps.f k a0 a1 a2 a3 a4 a5 a6 a7 a8) (changeoverlaw23_KvoneKeeps.f (k + 1) a0 a1 a2 a3 a4 a5 a6 a7 a8) := by
  intro a0 a1 a2 a3 a4 a5 a6 a7 a8 k
  obtain ⟨ih0, ih1⟩ := changeoverlaw23_KvoneKeeps.mono_l k
  unfold changeoverlaw23_KvoneKeeps.f
  repeat' first
      | (with_reducible exact ih0 _ _ _ _ _ _ _ _ _ _)
      | (with_reducible exact ih1 _ _ _ _ _ _ _ _ _ _)
      | (with_reducible exact changeoverlaw23_awake.mono _)
      | (with_reducible exact changeoverref23_Check.mono _ _ _)
      | (with_reducible exact changeoverref23_Large.mono _ _)
      | (with_reducible exact changeoverref23_Rise.mono _ _)
      | (with_reducible exact kvone_Do.mono _ _ _ _ _ _ _ _ _)
      | (with_reducible exact kvone_Find.mono _ _ _)
      | (with_reducible exact LeO.refl _)
      | (with_reducible exact LeO.none _)
      | (with_reducible refine LeO.ite ?_ ?_)
      | (with_reducible refine LeO.bind ?_ (fun _ => ?_))
      | exact ih0 _ _ _ _ _ _ _ _ _ _
      | exact ih1 _ _ _ _ _ _ _ _ _ _
      | exact changeoverlaw23_awake.mono _
      | exact changeoverref23_Check.mono _ _ _
      | exact changeoverref23_Large.mono _ _
      | exact changeoverref23_Rise.mono _ _
      | exact kvone_Do.mono _ _ _ _ _ _ _ _ _
      | exact kvone_Find.mono _ _ _
      | exact LeO.none _
      | refine LeO.ite ?_ ?_
      | refine LeO.bind ?_ (fun _ => ?_)
set_option maxHeartbeats 8000000 in
set_option maxRecDepth 100000 in
theorem changeoverlaw23_KvoneKeeps.calls (k : Nat) (A0 : Option Addr) (c0 : Nat) (l0 : List (S78)) (a1_0 : Int) (a1_1 : Int) (a1_2 : Int) (a1_3 : ByteArray) (a1_4 : ByteArray) (a1_5 : ByteArray) (a1_6 : Int) (a2 : ByteArray) (r : Bool) (w : World) (hr0 : Kd.C k78 w A0 l0.length l0) (hc0 : l0.length ≤ c0) (h : changeoverlaw23_KvoneKeeps.f k l0 a1_0 a1_1 a1_2 a1_3 a1_4 a1_5 a1_6 a2 = some r) :
    Calls Try.prog 10 #[.slice A0 l0.length c0, .agg #[.int .i64 a1_0, .int .i64 a1_1, .int .i64 a1_2, .string a1_3, .string a1_4, .string a1_5, .int .i64 a1_6], .string a2] w fun e w' => e = .returned (.bool r) ∧ Below w.heap.size w w' := by
  have hu72 := Try.underlying72
  have hu60 := Try.underlying60
  have hu78 := Try.underlying78
  have HR0 := Aside0.mk hr0
  have HC0 := Aside0.mk hc0
  clear hr0 hc0
  have HB := Aside0.mk (Below.refl w.heap.size w)
  have H : ((changeoverref23_Large.f k l0).bind fun t588 => (if t588 = true then (changeoverlaw23_KvoneKeeps.j0 k l0 a2 true a1_0 a1_1 a1_2 a1_3 a1_4 a1_5 a1_6) else ((changeoverlaw23_large.f a1_0 a1_1 a1_2 a1_3 a1_4 a1_5 a1_6).bind fun t589 => (if t589 = true then (changeoverlaw23_KvoneKeeps.j0 k l0 a2 true a1_0 a1_1 a1_2 a1_3 a1_4 a1_5 a1_6) else (if (a2.size : Int) > 200 then (changeoverlaw23_KvoneKeeps.j0 k l0 a2 true a1_0 a1_1 a1_2 a1_3 a1_4 a1_5 a1_6) else ((changeoverref23_Rise.f k l0).bind fun t590 => (changeoverlaw23_KvoneKeeps.j0 k l0 a2 (!t590) a1_0 a1_1 a1_2 a1_3 a1_4 a1_5 a1_6))))))) = some r := h
  clear h
  have HC4 := Aside0.mk H
  clear H
  go_enter Try.func10, Try.ntmps10
  go_upto_region 1 with (first | ((with_reducible refine gate_dst (N := 4) rfl ?_); (try (refine gate_guard (by rfl) ?_; dsimp only)); refine box_event ?hg (N := 4) ?hd (cs := #[.int .i64 a1_0, .int .i64 a1_1, .int .i64 a1_2, .string a1_3, .string a1_4, .string a1_5, .int .i64 a1_6]) (t := 72) ?hr ?_; (case hd => rfl); (case hg => rfl); (case hr => first | (go_simp; done) | (go_simp; rfl)); intro gb587 hg w5 hbox hb; have n0_ := Aside0.mk (below_step (by repeat (first | (with_reducible first | exact HB.out | apply below_alloc | apply pw_below_drewN | apply below_drew1) | exact HB.out)) hb); have n1_ := Aside0.mk (hbox); have n2_ := Aside0.mk ((by rw [hg]; exact (below_size (by repeat (first | (with_reducible first | exact HB.out | apply below_alloc | apply pw_below_drewN | apply below_drew1) | exact HB.out))) : w.heap.size ≤ gb587)); have n3_ := Aside0.mk ((by rw [hg]; exact (below_size (by repeat (first | (with_reducible first | exact HB.out | apply below_alloc | apply pw_below_drewN | apply below_drew1) | exact HB.out))) : w.heap.size ≤ gb587)); clear HB; have HB := n0_; have BK587 := n1_; have GW587 := n2_; have GE587 := n3_; clear n0_ n1_ n2_ n3_; clear hb hbox hg))
  (try simp only [Act.put, List.setIfInBounds_toArray, List.set_cons_zero, List.set_cons_succ])
  go_cut [31] (fun v31 wc => ∃ (kq : Nat) (x31_3 : Bool), v31 = .bool x31_3 ∧ Aside0 (changeoverlaw23_KvoneKeeps.j0 kq l0 a2 x31_3 a1_0 a1_1 a1_2 a1_3 a1_4 a1_5 a1_6 = some r) ∧ Aside0 (kq ≤ k) ∧ Aside0 (wc.heap[gb587]? = some (.cells #[.int .i64 a1_0, .int .i64 a1_1, .int .i64 a1_2, .string a1_3, .string a1_4, .string a1_5, .int .i64 a1_6] 72 (0, 0))) ∧ Aside0 (Below w.heap.size w wc))
  case first =>
    have H := HC4.out
    clear HC4
    replace H := Option.bind_eq_some_iff.mp H
    obtain ⟨t588, A60, H⟩ := H
    replace H : (if t588 = true then (changeoverlaw23_KvoneKeeps.j0 k l0 a2 true a1_0 a1_1 a1_2 a1_3 a1_4 a1_5 a1_6) else ((changeoverlaw23_large.f a1_0 a1_1 a1_2 a1_3 a1_4 a1_5 a1_6).bind fun t589 => (if t589 = true then (changeoverlaw23_KvoneKeeps.j0 k l0 a2 true a1_0 a1_1 a1_2 a1_3 a1_4 a1_5 a1_6) else (if (a2.size : Int) > 200 then (changeoverlaw23_KvoneKeeps.j0 k l0 a2 true a1_0 a1_1 a1_2 a1_3 a1_4 a1_5 a1_6) else ((changeoverref23_Rise.f k l0).bind fun t590 => (changeoverlaw23_KvoneKeeps.j0 k l0 a2 (!t590) a1_0 a1_1 a1_2 a1_3 a1_4 a1_5 a1_6)))))) = some r := H
    have A6 := Aside0.mk A60
    clear A60
    by_cases c7 : t588 = true
    · subst c7
      have H1 : (changeoverlaw23_KvoneKeeps.j0 k l0 a2 true a1_0 a1_1 a1_2 a1_3 a1_4 a1_5 a1_6) = some r := by rw [if_pos rfl] at H; exact H
      clear H
      have H := H1
      clear H1
      have H' := Aside0.mk H
      clear H
      go_wp2_with (first | ((with_reducible refine gate_callee (f := 55) rfl ?_); refine goesL_ (some 17) rfl rfl Try.func55 (by kernel_rfl) rfl #[.slice A0 l0.length c0] rfl (by (try simp only [List.map_toArray, List.map_cons, List.map_nil]); first | done | rfl | (simp only [List.length_drop, List.length_take]; rfl)) ?_; (with_reducible refine (changeoverref23_Large.calls k _ _ l0 true _ ?side1 ?side2 A6.out).mono ?_); (case side1 => repeat (first | exact (Kd.C_below HR0.out HB.out) | (with_reducible refine Kd.C_alloc ?_ _) | (with_reducible refine Kd.C_drewN ?_ _) | (with_reducible refine Kd.C_drew ?_))); (case side2 => exact HC0.out); rintro e w' ⟨rfl, ⟨nd, rfl⟩⟩; refine ⟨_, rfl, ?_⟩))
      go_meet
      case rel => exact ⟨_, (true), (by first | rfl | (simp; done) | (simp [*]; done)), H', ⟨by first | omega | exact Nat.le_refl _⟩, ⟨by (with_reducible repeat (first | refine blk_drewN ?_ _ | refine blk_drew ?_ | refine blk_alloc ?_ _)); exact BK587.out⟩, ⟨by repeat (first | (with_reducible first | exact HB.out | apply below_alloc | apply pw_below_drewN | apply below_drew1 | refine below_set ?_ GE587.out) | exact HB.out)⟩⟩
    · replace c7 := Bool.eq_false_iff.mpr c7
      subst c7
      have H1 : ((changeoverlaw23_large.f a1_0 a1_1 a1_2 a1_3 a1_4 a1_5 a1_6).bind fun t589 => (if t589 = true then (changeoverlaw23_KvoneKeeps.j0 k l0 a2 true a1_0 a1_1 a1_2 a1_3 a1_4 a1_5 a1_6) else (if (a2.size : Int) > 200 then (changeoverlaw23_KvoneKeeps.j0 k l0 a2 true a1_0 a1_1 a1_2 a1_3 a1_4 a1_5 a1_6) else ((changeoverref23_Rise.f k l0).bind fun t590 => (changeoverlaw23_KvoneKeeps.j0 k l0 a2 (!t590) a1_0 a1_1 a1_2 a1_3 a1_4 a1_5 a1_6))))) = some r := by rw [if_neg (show ¬ (false = true) by decide)] at H; exact H
      clear H
      have H := H1
      clear H1
      replace H := Option.bind_eq_some_iff.mp H
      obtain ⟨t589, A80, H⟩ := H
      replace H : (if t589 = true then (changeoverlaw23_KvoneKeeps.j0 k l0 a2 true a1_0 a1_1 a1_2 a1_3 a1_4 a1_5 a1_6) else (if (a2.size : Int) > 200 then (changeoverlaw23_KvoneKeeps.j0 k l0 a2 true a1_0 a1_1 a1_2 a1_3 a1_4 a1_5 a1_6) else ((changeoverref23_Rise.f k l0).bind fun t590 => (changeoverlaw23_KvoneKeeps.j0 k l0 a2 (!t590) a1_0 a1_1 a1_2 a1_3 a1_4 a1_5 a1_6)))) = some r := H
      have A8 := Aside0.mk A80
      clear A80
      by_cases c9 : t589 = true
      · subst c9
        have H1 : (changeoverlaw23_KvoneKeeps.j0 k l0 a2 true a1_0 a1_1 a1_2 a1_3 a1_4 a1_5 a1_6) = some r := by rw [if_pos rfl] at H; exact H
        clear H
        have H := H1
        clear H1
        have H' := Aside0.mk H
        clear H
        go_wp2_with (first | ((with_reducible refine gate_callee (f := 55) rfl ?_); refine goesL_ (some 17) rfl rfl Try.func55 (by kernel_rfl) rfl #[.slice A0 l0.length c0] rfl (by (try simp only [List.map_toArray, List.map_cons, List.map_nil]); first | done | rfl | (simp only [List.length_drop, List.length_take]; rfl)) ?_; (with_reducible refine (changeoverref23_Large.calls k _ _ l0 false _ ?side1 ?side2 A6.out).mono ?_); (case side1 => repeat (first | exact (Kd.C_below HR0.out HB.out) | (with_reducible refine Kd.C_alloc ?_ _) | (with_reducible refine Kd.C_drewN ?_ _) | (with_reducible refine Kd.C_drew ?_))); (case side2 => exact HC0.out); rintro e w' ⟨rfl, ⟨nd, rfl⟩⟩; refine ⟨_, rfl, ?_⟩; have hcz10_0 : w5.cell? ⟨gb587, 0, none⟩ = some (.int .i64 a1_0) := (blk_cell BK587.out 0).trans rfl; have hcz10_1 : w5.cell? ⟨gb587, 1, none⟩ = some (.int .i64 a1_1) := (blk_cell BK587.out 1).trans rfl; have hcz10_2 : w5.cell? ⟨gb587, 2, none⟩ = some (.int .i64 a1_2) := (blk_cell BK587.out 2).trans rfl; have hcz10_3 : w5.cell? ⟨gb587, 3, none⟩ = some (.string a1_3) := (blk_cell BK587.out 3).trans rfl; have hcz10_4 : w5.cell? ⟨gb587, 4, none⟩ = some (.string a1_4) := (blk_cell BK587.out 4).trans rfl; have hcz10_5 : w5.cell? ⟨gb587, 5, none⟩ = some (.string a1_5) := (blk_cell BK587.out 5).trans rfl; have hcz10_6 : w5.cell? ⟨gb587, 6, none⟩ = some (.int .i64 a1_6) := (blk_cell BK587.out 6).trans rfl; have hfz10_0 := blk_frozen BK587.out 0; have hfz10_1 := blk_frozen BK587.out 1; have hfz10_2 := blk_frozen BK587.out 2; have hfz10_3 := blk_frozen BK587.out 3; have hfz10_4 := blk_frozen BK587.out 4; have hfz10_5 := blk_frozen BK587.out 5; have hfz10_6 := blk_frozen BK587.out 6) | (go_at_call 56; (with_reducible refine (changeoverlaw23_large.calls a1_0 a1_1 a1_2 a1_3 a1_4 a1_5 a1_6 true _ A8.out).mono ?_); rintro e w11 ⟨rfl, hb⟩; have n0_ := Aside0.mk (blk_below (g := gb587) (o := .cells #[.int .i64 a1_0, .int .i64 a1_1, .int .i64 a1_2, .string a1_3, .string a1_4, .string a1_5, .int .i64 a1_6] 72 (0, 0)) (by (with_reducible repeat (first | refine blk_drewN ?_ _ | refine blk_drew ?_ | refine blk_alloc ?_ _)); exact BK587.out) hb); have n1_ := Aside0.mk (below_step (by repeat (first | (with_reducible first | exact HB.out | apply below_alloc | apply pw_below_drewN | apply below_drew1 | refine below_set ?_ GE587.out) | exact HB.out)) hb); clear BK587; clear HB; have BK587 := n0_; have HB := n1_; clear n0_ n1_; (try clear hb); (try clear hb2); (try clear hk); (try clear hi)))
        go_meet
        case rel => exact ⟨_, (true), (by first | rfl | (simp; done) | (simp [*]; done)), H', ⟨by first | omega | exact Nat.le_refl _⟩, ⟨by (with_reducible repeat (first | refine blk_drewN ?_ _ | refine blk_drew ?_ | refine blk_alloc ?_ _)); exact BK587.out⟩, ⟨by repeat (first | (with_reducible first | exact HB.out | apply below_alloc | apply pw_below_drewN | apply below_drew1 | refine below_set ?_ GE587.out) | exact HB.out)⟩⟩
      · replace c9 := Bool.eq_false_iff.mpr c9
        subst c9
        have H1 : (if (a2.size : Int) > 200 then (changeoverlaw23_KvoneKeeps.j0 k l0 a2 true a1_0 a1_1 a1_2 a1_3 a1_4 a1_5 a1_6) else ((changeoverref23_Rise.f k l0).bind fun t590 => (changeoverlaw23_KvoneKeeps.j0 k l0 a2 (!t590) a1_0 a1_1 a1_2 a1_3 a1_4 a1_5 a1_6))) = some r := by rw [if_neg (show ¬ (false = true) by decide)] at H; exact H
        clear H
        have H := H1
        clear H1
        by_cases c12 : (a2.size : Int) > 200
        · rw [if_pos c12] at H
          have c12b0 : decide (200 < (a2.size : Int)) = true := decide_eq_true c12
          have c12b1 : decide (200 < a2.size) = true := decide_eq_true (by omega)
          clear c12
          (first | rw [c12b0] | (simp only [i64_w, i32_w]; rw [c12b0]) | skip)
          have H' := Aside0.mk H
          clear H
          go_wp2_with (first | ((with_reducible refine gate_callee (f := 55) rfl ?_); refine goesL_ (some 17) rfl rfl Try.func55 (by kernel_rfl) rfl #[.slice A0 l0.length c0] rfl (by (try simp only [List.map_toArray, List.map_cons, List.map_nil]); first | done | rfl | (simp only [List.length_drop, List.length_take]; rfl)) ?_; (with_reducible refine (changeoverref23_Large.calls k _ _ l0 false _ ?side1 ?side2 A6.out).mono ?_); (case side1 => repeat (first | exact (Kd.C_below HR0.out HB.out) | (with_reducible refine Kd.C_alloc ?_ _) | (with_reducible refine Kd.C_drewN ?_ _) | (with_reducible refine Kd.C_drew ?_))); (case side2 => exact HC0.out); rintro e w' ⟨rfl, ⟨nd, rfl⟩⟩; refine ⟨_, rfl, ?_⟩; have hcz13_0 : w5.cell? ⟨gb587, 0, none⟩ = some (.int .i64 a1_0) := (blk_cell BK587.out 0).trans rfl; have hcz13_1 : w5.cell? ⟨gb587, 1, none⟩ = some (.int .i64 a1_1) := (blk_cell BK587.out 1).trans rfl; have hcz13_2 : w5.cell? ⟨gb587, 2, none⟩ = some (.int .i64 a1_2) := (blk_cell BK587.out 2).trans rfl; have hcz13_3 : w5.cell? ⟨gb587, 3, none⟩ = some (.string a1_3) := (blk_cell BK587.out 3).trans rfl; have hcz13_4 : w5.cell? ⟨gb587, 4, none⟩ = some (.string a1_4) := (blk_cell BK587.out 4).trans rfl; have hcz13_5 : w5.cell? ⟨gb587, 5, none⟩ = some (.string a1_5) := (blk_cell BK587.out 5).trans rfl; have hcz13_6 : w5.cell? ⟨gb587, 6, none⟩ = some (.int .i64 a1_6) := (blk_cell BK587.out 6).trans rfl; have hfz13_0 := blk_frozen BK587.out 0; have hfz13_1 := blk_frozen BK587.out 1; have hfz13_2 := blk_frozen BK587.out 2; have hfz13_3 := blk_frozen BK587.out 3; have hfz13_4 := blk_frozen BK587.out 4; have hfz13_5 := blk_frozen BK587.out 5; have hfz13_6 := blk_frozen BK587.out 6) | (go_at_call 56; (with_reducible refine (changeoverlaw23_large.calls a1_0 a1_1 a1_2 a1_3 a1_4 a1_5 a1_6 false _ A8.out).mono ?_); rintro e w14 ⟨rfl, hb⟩; have n0_ := Aside0.mk (blk_below (g := gb587) (o := .cells #[.int .i64 a1_0, .int .i64 a1_1, .int .i64 a1_2, .string a1_3, .string a1_4, .string a1_5, .int .i64 a1_6] 72 (0, 0)) (by (with_reducible repeat (first | refine blk_drewN ?_ _ | refine blk_drew ?_ | refine blk_alloc ?_ _)); exact BK587.out) hb); have n1_ := Aside0.mk (below_step (by repeat (first | (with_reducible first | exact HB.out | apply below_alloc | apply pw_below_drewN | apply below_drew1 | refine below_set ?_ GE587.out) | exact HB.out)) hb); clear BK587; clear HB; have BK587 := n0_; have HB := n1_; clear n0_ n1_; (try clear hb); (try clear hb2); (try clear hk); (try clear hi)))
          go_meet
          case rel => exact ⟨_, (true), (by first | rfl | (simp; done) | (simp [*]; done)), H', ⟨by first | omega | exact Nat.le_refl _⟩, ⟨by (with_reducible repeat (first | refine blk_drewN ?_ _ | refine blk_drew ?_ | refine blk_alloc ?_ _)); exact BK587.out⟩, ⟨by repeat (first | (with_reducible first | exact HB.out | apply below_alloc | apply pw_below_drewN | apply below_drew1 | refine below_set ?_ GE587.out) | exact HB.out)⟩⟩
        · rw [if_neg c12] at H
          have c12b0 : decide (200 < (a2.size : Int)) = false := decide_eq_false c12
          have c12b1 : decide (200 < a2.size) = false := decide_eq_false (by omega)
          clear c12
          (first | rw [c12b0] | (simp only [i64_w, i32_w]; rw [c12b0]) | skip)
          replace H := Option.bind_eq_some_iff.mp H
          obtain ⟨t590, A150, H⟩ := H
          replace H : (changeoverlaw23_KvoneKeeps.j0 k l0 a2 (!t590) a1_0 a1_1 a1_2 a1_3 a1_4 a1_5 a1_6) = some r := H
          have A15 := Aside0.mk A150
          clear A150
          have H' := Aside0.mk H
          clear H
          go_wp2_with (first | ((with_reducible refine gate_callee (f := 55) rfl ?_); refine goesL_ (some 17) rfl rfl Try.func55 (by kernel_rfl) rfl #[.slice A0 l0.length c0] rfl (by (try simp only [List.map_toArray, List.map_cons, List.map_nil]); first | done | rfl | (simp only [List.length_drop, List.length_take]; rfl)) ?_; (with_reducible refine (changeoverref23_Large.calls k _ _ l0 false _ ?side1 ?side2 A6.out).mono ?_); (case side1 => repeat (first | exact (Kd.C_below HR0.out HB.out) | (with_reducible refine Kd.C_alloc ?_ _) | (with_reducible refine Kd.C_drewN ?_ _) | (with_reducible refine Kd.C_drew ?_))); (case side2 => exact HC0.out); rintro e w' ⟨rfl, ⟨nd, rfl⟩⟩; refine ⟨_, rfl, ?_⟩; have hcz16_0 : w5.cell? ⟨gb587, 0, none⟩ = some (.int .i64 a1_0) := (blk_cell BK587.out 0).trans rfl; have hcz16_1 : w5.cell? ⟨gb587, 1, none⟩ = some (.int .i64 a1_1) := (blk_cell BK587.out 1).trans rfl; have hcz16_2 : w5.cell? ⟨gb587, 2, none⟩ = some (.int .i64 a1_2) := (blk_cell BK587.out 2).trans rfl; have hcz16_3 : w5.cell? ⟨gb587, 3, none⟩ = some (.string a1_3) := (blk_cell BK587.out 3).trans rfl; have hcz16_4 : w5.cell? ⟨gb587, 4, none⟩ = some (.string a1_4) := (blk_cell BK587.out 4).trans rfl; have hcz16_5 : w5.cell? ⟨gb587, 5, none⟩ = some (.string a1_5) := (blk_cell BK587.out 5).trans rfl; have hcz16_6 : w5.cell? ⟨gb587, 6, none⟩ = some (.int .i64 a1_6) := (blk_cell BK587.out 6).trans rfl; have hfz16_0 := blk_frozen BK587.out 0; have hfz16_1 := blk_frozen BK587.out 1; have hfz16_2 := blk_frozen BK587.out 2; have hfz16_3 := blk_frozen BK587.out 3; have hfz16_4 := blk_frozen BK587.out 4; have hfz16_5 := blk_frozen BK587.out 5; have hfz16_6 := blk_frozen BK587.out 6) | (go_at_call 56; (with_reducible refine (changeoverlaw23_large.calls a1_0 a1_1 a1_2 a1_3 a1_4 a1_5 a1_6 false _ A8.out).mono ?_); rintro e w17 ⟨rfl, hb⟩; have n0_ := Aside0.mk (blk_below (g := gb587) (o := .cells #[.int .i64 a1_0, .int .i64 a1_1, .int .i64 a1_2, .string a1_3, .string a1_4, .string a1_5, .int .i64 a1_6] 72 (0, 0)) (by (with_reducible repeat (first | refine blk_drewN ?_ _ | refine blk_drew ?_ | refine blk_alloc ?_ _)); exact BK587.out) hb); have n1_ := Aside0.mk (below_step (by repeat (first | (with_reducible first | exact HB.out | apply below_alloc | apply pw_below_drewN | apply below_drew1 | refine below_set ?_ GE587.out) | exact HB.out)) hb); clear BK587; clear HB; have BK587 := n0_; have HB := n1_; clear n0_ n1_; (try clear hb); (try clear hb2); (try clear hk); (try clear hi)) | (go_at_call 57; (with_reducible refine (changeoverref23_Rise.calls k _ _ l0 t590 _ ?side1 ?side2 A15.out).mono ?_); (case side1 => repeat (first | exact (Kd.C_below HR0.out HB.out) | (with_reducible refine Kd.C_alloc ?_ _) | (with_reducible refine Kd.C_drewN ?_ _) | (with_reducible refine Kd.C_drew ?_))); (case side2 => exact HC0.out); rintro e w' ⟨rfl, ⟨nd, rfl⟩⟩))
          go_meet
          case rel => exact ⟨_, (!t590), (by first | rfl | (simp; done) | (simp [*]; done)), H', ⟨by first | omega | exact Nat.le_refl _⟩, ⟨by (with_reducible repeat (first | refine blk_drewN ?_ _ | refine blk_drew ?_ | refine blk_alloc ?_ _)); exact BK587.out⟩, ⟨by repeat (first | (with_reducible first | exact HB.out | apply below_alloc | apply pw_below_drewN | apply below_drew1 | refine below_set ?_ GE587.out) | exact HB.out)⟩⟩
  case rest =>
    clear HC4
    try clear c1
    try clear p2
    try clear c5
    try clear c7
    try clear c9
    try clear c10
    try clear c12
    try clear c12b0
    try clear c12b1
    try clear hcz10_0
    try clear hcz10_1
    try clear hcz10_2
    try clear hcz10_3
    try clear hcz10_4
    try clear hcz10_5
    try clear hcz10_6
    try clear hcz13_0
    try clear hcz13_1
    try clear hcz13_2
    try clear hcz13_3
    try clear hcz13_4
    try clear hcz13_5
    try clear hcz13_6
    try clear hcz16_0
    try clear hcz16_1
    try clear hcz16_2
    try clear hcz16_3
    try clear hcz16_4
    try clear hcz16_5
    try clear hcz16_6
    try clear hfz10_0
    try clear hfz10_1
    try clear hfz10_2
    try clear hfz10_3
    try clear hfz10_4
    try clear hfz10_5
    try clear hfz10_6
    try clear hfz13_0
    try clear hfz13_1
    try clear hfz13_2
    try clear hfz13_3
    try clear hfz13_4
    try clear hfz13_5
    try clear hfz13_6
    try clear hfz16_0
    try clear hfz16_1
    try clear hfz16_2
    try clear hfz16_3
    try clear hfz16_4
    try clear hfz16_5
    try clear hfz16_6
    obtain ⟨kq, x31_3, rfl, HA, HJ3, BK587, HB⟩ := hcut
    cases kq with
    | zero => exact absurd HA.out (by simp [changeoverlaw23_KvoneKeeps.j0])
    | succ kj3 =>
      have H := HA.out
      clear HA
      simp only [changeoverlaw23_KvoneKeeps.j0] at H
      by_cases c18 : x31_3 = true
      · subst c18
        have H1 : ((changeoverlaw23_awake.f kj3).bind fun t591 => (some t591)) = some r := by rw [if_pos rfl] at H; exact H
        clear H
        have H := H1
        clear H1
        replace H := Option.bind_eq_some_iff.mp H
        obtain ⟨t591, A190, H⟩ := H
        replace H : (some t591) = some r := H
        have A19 := Aside0.mk A190
        clear A190
        obtain rfl := Option.some.inj H
        go_wp2_with (first | ((with_reducible refine gate_callee (f := 58) rfl ?_); refine goesL_ (some 32) rfl rfl Try.func58 (by kernel_rfl) rfl #[] rfl (by (try simp only [List.map_toArray, List.map_cons, List.map_nil]); first | done | rfl | (simp only [List.length_drop, List.length_take]; rfl)) ?_; (with_reducible refine (changeoverlaw23_awake.calls kj3  t591 _ A19.out).mono ?_); rintro e w20 ⟨rfl, hb⟩; refine ⟨_, rfl, ?_⟩; have n0_ := Aside0.mk (blk_below (g := gb587) (o := .cells #[.int .i64 a1_0, .int .i64 a1_1, .int .i64 a1_2, .string a1_3, .string a1_4, .string a1_5, .int .i64 a1_6] 72 (0, 0)) (by (with_reducible repeat (first | refine blk_drewN ?_ _ | refine blk_drew ?_ | refine blk_alloc ?_ _)); exact BK587.out) hb); have n1_ := Aside0.mk (below_step (by repeat (first | (with_reducible first | exact HB.out | apply below_alloc | apply pw_below_drewN | apply below_drew1 | refine below_set ?_ GE587.out) | exact HB.out)) hb); clear BK587; clear HB; have BK587 := n0_; have HB := n1_; clear n0_ n1_; (try clear hb); (try clear hb2); (try clear hk); (try clear hi)))
        go_ret
        exact ⟨by first | rfl | (simp [errW_none, errW_some] <;> rfl) | (simp [*, errW_none, errW_some] <;> rfl), by repeat (first | (with_reducible first | exact HB.out | apply below_alloc | apply pw_below_drewN | apply below_drew1 | refine below_set ?_ GE587.out) | exact HB.out)⟩
      · replace c18 := Bool.eq_false_iff.mpr c18
        subst c18
        have H1 : ((kvone_Do.f kj3 l0 a1_0 a1_1 a1_2 a1_3 a1_4 a1_5 a1_6).bind fun bt592 => ((kvone_Find.f kj3 bt592.1 a1_3).bind fun bt602 => ((kvone_Find.f kj3 bt592.1 a2).bind fun bt607 => ((kvone_Find.f kj3 l0 a2).bind fun bt612 => (if a2.toList = a1_3.toList then (if a1_0 = 2 then (if bt592.2.2.2.1 = 0 then (if bt602.2.2.2 = true then (if bt602.2.1.toList = a1_4.toList then (if a1_0 = 4 then (changeoverlaw23_KvoneKeeps.j1 kj3 l0 bt592.1 bt602.2.2.2 a1_0 a1_1 a1_2 a1_3 a1_4 a1_5 a1_6) else (changeoverlaw23_KvoneKeeps.j1 kj3 l0 bt592.1 false a1_0 a1_1 a1_2 a1_3 a1_4 a1_5 a1_6)) else (changeoverlaw23_KvoneKeeps.j1 kj3 l0 bt592.1 true a1_0 a1_1 a1_2 a1_3 a1_4 a1_5 a1_6)) else (changeoverlaw23_KvoneKeeps.j1 kj3 l0 bt592.1 true a1_0 a1_1 a1_2 a1_3 a1_4 a1_5 a1_6)) else (if a1_0 = 4 then (changeoverlaw23_KvoneKeeps.j1 kj3 l0 bt592.1 bt602.2.2.2 a1_0 a1_1 a1_2 a1_3 a1_4 a1_5 a1_6) else (changeoverlaw23_KvoneKeeps.j1 kj3 l0 bt592.1 false a1_0 a1_1 a1_2 a1_3 a1_4 a1_5 a1_6))) else (if a1_0 = 4 then (changeoverlaw23_KvoneKeeps.j1 kj3 l0 bt592.1 bt602.2.2.2 a1_0 a1_1 a1_2 a1_3 a1_4 a1_5 a1_6) else (changeoverlaw23_KvoneKeeps.j1 kj3 l0 bt592.1 false a1_0 a1_1 a1_2 a1_3 a1_4 a1_5 a1_6))) else (if (!(bt607.1.toList == bt612.1.toList) || (!(bt607.2.1.toList == bt612.2.1.toList) || (!(bt607.2.2.1 == bt612.2.2.1)))) = true then (changeoverlaw23_KvoneKeeps.j1 kj3 l0 bt592.1 true a1_0 a1_1 a1_2 a1_3 a1_4 a1_5 a1_6) else (if (bt607.2.2.2 != bt612.2.2.2) = true then (changeoverlaw23_KvoneKeeps.j1 kj3 l0 bt592.1 true a1_0 a1_1 a1_2 a1_3 a1_4 a1_5 a1_6) else (if a1_0 = 2 then (if bt592.2.2.2.1 = 0 then (if bt602.2.2.2 = true then (if bt602.2.1.toList = a1_4.toList then (if a1_0 = 4 then (changeoverlaw23_KvoneKeeps.j1 kj3 l0 bt592.1 bt602.2.2.2 a1_0 a1_1 a1_2 a1_3 a1_4 a1_5 a1_6) else (changeoverlaw23_KvoneKeeps.j1 kj3 l0 bt592.1 false a1_0 a1_1 a1_2 a1_3 a1_4 a1_5 a1_6)) else (changeoverlaw23_KvoneKeeps.j1 kj3 l0 bt592.1 true a1_0 a1_1 a1_2 a1_3 a1_4 a1_5 a1_6)) else (changeoverlaw23_KvoneKeeps.j1 kj3 l0 bt592.1 true a1_0 a1_1 a1_2 a1_3 a1_4 a1_5 a1_6)) else (if a1_0 = 4 then (changeoverlaw23_KvoneKeeps.j1 kj3 l0 bt592.1 bt602.2.2.2 a1_0 a1_1 a1_2 a1_3 a1_4 a1_5 a1_6) else (changeoverlaw23_KvoneKeeps.j1 kj3 l0 bt592.1 false a1_0 a1_1 a1_2 a1_3 a1_4 a1_5 a1_6))) else (if a1_0 = 4 then (changeoverlaw23_KvoneKeeps.j1 kj3 l0 bt592.1 bt602.2.2.2 a1_0 a1_1 a1_2 a1_3 a1_4 a1_5 a1_6) else (changeoverlaw23_KvoneKeeps.j1 kj3 l0 bt592.1 false a1_0 a1_1 a1_2 a1_3 a1_4 a1_5 a1_6)))))))))) = some r := by rw [if_neg (show ¬ (false = true) by decide)] at H; exact H
        clear H
        have H := H1
        clear H1
        replace H := Option.bind_eq_some_iff.mp H
        obtain ⟨⟨t592, t595, t596, t597, t598, t599, t600⟩, A210, H⟩ := H
        replace H : ((kvone_Find.f kj3 t592 a1_3).bind fun bt602 => ((kvone_Find.f kj3 t592 a2).bind fun bt607 => ((kvone_Find.f kj3 l0 a2).bind fun bt612 => (if a2.toList = a1_3.toList then (if a1_0 = 2 then (if t597 = 0 then (if bt602.2.2.2 = true then (if bt602.2.1.toList = a1_4.toList then (if a1_0 = 4 then (changeoverlaw23_KvoneKeeps.j1 kj3 l0 t592 bt602.2.2.2 a1_0 a1_1 a1_2 a1_3 a1_4 a1_5 a1_6) else (changeoverlaw23_KvoneKeeps.j1 kj3 l0 t592 false a1_0 a1_1 a1_2 a1_3 a1_4 a1_5 a1_6)) else (changeoverlaw23_KvoneKeeps.j1 kj3 l0 t592 true a1_0 a1_1 a1_2 a1_3 a1_4 a1_5 a1_6)) else (changeoverlaw23_KvoneKeeps.j1 kj3 l0 t592 true a1_0 a1_1 a1_2 a1_3 a1_4 a1_5 a1_6)) else (if a1_0 = 4 then (changeoverlaw23_KvoneKeeps.j1 kj3 l0 t592 bt602.2.2.2 a1_0 a1_1 a1_2 a1_3 a1_4 a1_5 a1_6) else (changeoverlaw23_KvoneKeeps.j1 kj3 l0 t592 false a1_0 a1_1 a1_2 a1_3 a1_4 a1_5 a1_6))) else (if a1_0 = 4 then (changeoverlaw23_KvoneKeeps.j1 kj3 l0 t592 bt602.2.2.2 a1_0 a1_1 a1_2 a1_3 a1_4 a1_5 a1_6) else (changeoverlaw23_KvoneKeeps.j1 kj3 l0 t592 false a1_0 a1_1 a1_2 a1_3 a1_4 a1_5 a1_6))) else (if (!(bt607.1.toList == bt612.1.toList) || (!(bt607.2.1.toList == bt612.2.1.toList) || (!(bt607.2.2.1 == bt612.2.2.1)))) = true then (changeoverlaw23_KvoneKeeps.j1 kj3 l0 t592 true a1_0 a1_1 a1_2 a1_3 a1_4 a1_5 a1_6) else (if (bt607.2.2.2 != bt612.2.2.2) = true then (changeoverlaw23_KvoneKeeps.j1 kj3 l0 t592 true a1_0 a1_1 a1_2 a1_3 a1_4 a1_5 a1_6) else (if a1_0 = 2 then (if t597 = 0 then (if bt602.2.2.2 = true then (if bt602.2.1.toList = a1_4.toList then (if a1_0 = 4 then (changeoverlaw23_KvoneKeeps.j1 kj3 l0 t592 bt602.2.2.2 a1_0 a1_1 a1_2 a1_3 a1_4 a1_5 a1_6) else (changeoverlaw23_KvoneKeeps.j1 kj3 l0 t592 false a1_0 a1_1 a1_2 a1_3 a1_4 a1_5 a1_6)) else (changeoverlaw23_KvoneKeeps.j1 kj3 l0 t592 true a1_0 a1_1 a1_2 a1_3 a1_4 a1_5 a1_6)) else (changeoverlaw23_KvoneKeeps.j1 kj3 l0 t592 true a1_0 a1_1 a1_2 a1_3 a1_4 a1_5 a1_6)) else (if a1_0 = 4 then (changeoverlaw23_KvoneKeeps.j1 kj3 l0 t592 bt602.2.2.2 a1_0 a1_1 a1_2 a1_3 a1_4 a1_5 a1_6) else (changeoverlaw23_KvoneKeeps.j1 kj3 l0 t592 false a1_0 a1_1 a1_2 a1_3 a1_4 a1_5 a1_6))) else (if a1_0 = 4 then (changeoverlaw23_KvoneKeeps.j1 kj3 l0 t592 bt602.2.2.2 a1_0 a1_1 a1_2 a1_3 a1_4 a1_5 a1_6) else (changeoverlaw23_KvoneKeeps.j1 kj3 l0 t592 false a1_0 a1_1 a1_2 a1_3 a1_4 a1_5 a1_6))))))))) = some r := H
        have A21 := Aside0.mk A210
        clear A210
        replace H := Option.bind_eq_some_iff.mp H
        obtain ⟨⟨t602, t603, t604, t605⟩, A220, H⟩ := H
        replace H : ((kvone_Find.f kj3 t592 a2).bind fun bt607 => ((kvone_Find.f kj3 l0 a2).bind fun bt612 => (if a2.toList = a1_3.toList then (if a1_0 = 2 then (if t597 = 0 then (if t605 = true then (if t603.toList = a1_4.toList then (if a1_0 = 4 then (changeoverlaw23_KvoneKeeps.j1 kj3 l0 t592 t605 a1_0 a1_1 a1_2 a1_3 a1_4 a1_5 a1_6) else (changeoverlaw23_KvoneKeeps.j1 kj3 l0 t592 false a1_0 a1_1 a1_2 a1_3 a1_4 a1_5 a1_6)) else (changeoverlaw23_KvoneKeeps.j1 kj3 l0 t592 true a1_0 a1_1 a1_2 a1_3 a1_4 a1_5 a1_6)) else (changeoverlaw23_KvoneKeeps.j1 kj3 l0 t592 true a1_0 a1_1 a1_2 a1_3 a1_4 a1_5 a1_6)) else (if a1_0 = 4 then (changeoverlaw23_KvoneKeeps.j1 kj3 l0 t592 t605 a1_0 a1_1 a1_2 a1_3 a1_4 a1_5 a1_6) else (changeoverlaw23_KvoneKeeps.j1 kj3 l0 t592 false a1_0 a1_1 a1_2 a1_3 a1_4 a1_5 a1_6))) else (if a1_0 = 4 then (changeoverlaw23_KvoneKeeps.j1 kj3 l0 t592 t605 a1_0 a1_1 a1_2 a1_3 a1_4 a1_5 a1_6) else (changeoverlaw23_KvoneKeeps.j1 kj3 l0 t592 false a1_0 a1_1 a1_2 a1_3 a1_4 a1_5 a1_6))) else (if (!(bt607.1.toList == bt612.1.toList) || (!(bt607.2.1.toList == bt612.2.1.toList) || (!(bt607.2.2.1 == bt612.2.2.1)))) = true then (changeoverlaw23_KvoneKeeps.j1 kj3 l0 t592 true a1_0 a1_1 a1_2 a1_3 a1_4 a1_5 a1_6) else (if (bt607.2.2.2 != bt612.2.2.2) = true then (changeoverlaw23_KvoneKeeps.j1 kj3 l0 t592 true a1_0 a1_1 a1_2 a1_3 a1_4 a1_5 a1_6) else (if a1_0 = 2 then (if t597 = 0 then (if t605 = true then (if t603.toList = a1_4.toList then (if a1_0 = 4 then (changeoverlaw23_KvoneKeeps.j1 kj3 l0 t592 t605 a1_0 a1_1 a1_2 a1_3 a1_4 a1_5 a1_6) else (changeoverlaw23_KvoneKeeps.j1 kj3 l0 t592 false a1_0 a1_1 a1_2 a1_3 a1_4 a1_5 a1_6)) else (changeoverlaw23_KvoneKeeps.j1 kj3 l0 t592 true a1_0 a1_1 a1_2 a1_3 a1_4 a1_5 a1_6)) else (changeoverlaw23_KvoneKeeps.j1 kj3 l0 t592 true a1_0 a1_1 a1_2 a1_3 a1_4 a1_5 a1_6)) else (if a1_0 = 4 then (changeoverlaw23_KvoneKeeps.j1 kj3 l0 t592 t605 a1_0 a1_1 a1_2 a1_3 a1_4 a1_5 a1_6) else (changeoverlaw23_KvoneKeeps.j1 kj3 l0 t592 false a1_0 a1_1 a1_2 a1_3 a1_4 a1_5 a1_6))) else (if a1_0 = 4 then (changeoverlaw23_KvoneKeeps.j1 kj3 l0 t592 t605 a1_0 a1_1 a1_2 a1_3 a1_4 a1_5 a1_6) else (changeoverlaw23_KvoneKeeps.j1 kj3 l0 t592 false a1_0 a1_1 a1_2 a1_3 a1_4 a1_5 a1_6)))))))) = some r := H
        have A22 := Aside0.mk A220
        clear A220
        replace H := Option.bind_eq_some_iff.mp H
        obtain ⟨⟨t607, t608, t609, t610⟩, A230, H⟩ := H
        replace H : ((kvone_Find.f kj3 l0 a2).bind fun bt612 => (if a2.toList = a1_3.toList then (if a1_0 = 2 then (if t597 = 0 then (if t605 = true then (if t603.toList = a1_4.toList then (if a1_0 = 4 then (changeoverlaw23_KvoneKeeps.j1 kj3 l0 t592 t605 a1_0 a1_1 a1_2 a1_3 a1_4 a1_5 a1_6) else (changeoverlaw23_KvoneKeeps.j1 kj3 l0 t592 false a1_0 a1_1 a1_2 a1_3 a1_4 a1_5 a1_6)) else (changeoverlaw23_KvoneKeeps.j1 kj3 l0 t592 true a1_0 a1_1 a1_2 a1_3 a1_4 a1_5 a1_6)) else (changeoverlaw23_KvoneKeeps.j1 kj3 l0 t592 true a1_0 a1_1 a1_2 a1_3 a1_4 a1_5 a1_6)) else (if a1_0 = 4 then (changeoverlaw23_KvoneKeeps.j1 kj3 l0 t592 t605 a1_0 a1_1 a1_2 a1_3 a1_4 a1_5 a1_6) else (changeoverlaw23_KvoneKeeps.j1 kj3 l0 t592 false a1_0 a1_1 a1_2 a1_3 a1_4 a1_5 a1_6))) else (if a1_0 = 4 then (changeoverlaw23_KvoneKeeps.j1 kj3 l0 t592 t605 a1_0 a1_1 a1_2 a1_3 a1_4 a1_5 a1_6) else (changeoverlaw23_KvoneKeeps.j1 kj3 l0 t592 false a1_0 a1_1 a1_2 a1_3 a1_4 a1_5 a1_6))) else (if (!(t607.toList == bt612.1.toList) || (!(t608.toList == bt612.2.1.toList) || (!(t609 == bt612.2.2.1)))) = true then (changeoverlaw23_KvoneKeeps.j1 kj3 l0 t592 true a1_0 a1_1 a1_2 a1_3 a1_4 a1_5 a1_6) else (if (t610 != bt612.2.2.2) = true then (changeoverlaw23_KvoneKeeps.j1 kj3 l0 t592 true a1_0 a1_1 a1_2 a1_3 a1_4 a1_5 a1_6) else (if a1_0 = 2 then (if t597 = 0 then (if t605 = true then (if t603.toList = a1_4.toList then (if a1_0 = 4 then (changeoverlaw23_KvoneKeeps.j1 kj3 l0 t592 t605 a1_0 a1_1 a1_2 a1_3 a1_4 a1_5 a1_6) else (changeoverlaw23_KvoneKeeps.j1 kj3 l0 t592 false a1_0 a1_1 a1_2 a1_3 a1_4 a1_5 a1_6)) else (changeoverlaw23_KvoneKeeps.j1 kj3 l0 t592 true a1_0 a1_1 a1_2 a1_3 a1_4 a1_5 a1_6)) else (changeoverlaw23_KvoneKeeps.j1 kj3 l0 t592 true a1_0 a1_1 a1_2 a1_3 a1_4 a1_5 a1_6)) else (if a1_0 = 4 then (changeoverlaw23_KvoneKeeps.j1 kj3 l0 t592 t605 a1_0 a1_1 a1_2 a1_3 a1_4 a1_5 a1_6) else (changeoverlaw23_KvoneKeeps.j1 kj3 l0 t592 false a1_0 a1_1 a1_2 a1_3 a1_4 a1_5 a1_6))) else (if a1_0 = 4 then (changeoverlaw23_KvoneKeeps.j1 kj3 l0 t592 t605 a1_0 a1_1 a1_2 a1_3 a1_4 a1_5 a1_6) else (changeoverlaw23_KvoneKeeps.j1 kj3 l0 t592 false a1_0 a1_1 a1_2 a1_3 a1_4 a1_5 a1_6))))))) = some r := H
        have A23 := Aside0.mk A230
        clear A230
        replace H := Option.bind_eq_some_iff.mp H
        obtain ⟨⟨t612, t613, t614, t615⟩, A240, H⟩ := H
        replace H : (if a2.toList = a1_3.toList then (if a1_0 = 2 then (if t597 = 0 then (if t605 = true then (if t603.toList = a1_4.toList then (if a1_0 = 4 then (changeoverlaw23_KvoneKeeps.j1 kj3 l0 t592 t605 a1_0 a1_1 a1_2 a1_3 a1_4 a1_5 a1_6) else (changeoverlaw23_KvoneKeeps.j1 kj3 l0 t592 false a1_0 a1_1 a1_2 a1_3 a1_4 a1_5 a1_6)) else (changeoverlaw23_KvoneKeeps.j1 kj3 l0 t592 true a1_0 a1_1 a1_2 a1_3 a1_4 a1_5 a1_6)) else (changeoverlaw23_KvoneKeeps.j1 kj3 l0 t592 true a1_0 a1_1 a1_2 a1_3 a1_4 a1_5 a1_6)) else (if a1_0 = 4 then (changeoverlaw23_KvoneKeeps.j1 kj3 l0 t592 t605 a1_0 a1_1 a1_2 a1_3 a1_4 a1_5 a1_6) else (changeoverlaw23_KvoneKeeps.j1 kj3 l0 t592 false a1_0 a1_1 a1_2 a1_3 a1_4 a1_5 a1_6))) else (if a1_0 = 4 then (changeoverlaw23_KvoneKeeps.j1 kj3 l0 t592 t605 a1_0 a1_1 a1_2 a1_3 a1_4 a1_5 a1_6) else (changeoverlaw23_KvoneKeeps.j1 kj3 l0 t592 false a1_0 a1_1 a1_2 a1_3 a1_4 a1_5 a1_6))) else (if (!(t607.toList == t612.toList) || (!(t608.toList == t613.toList) || (!(t609 == t614)))) = true then (changeoverlaw23_KvoneKeeps.j1 kj3 l0 t592 true a1_0 a1_1 a1_2 a1_3 a1_4 a1_5 a1_6) else (if (t610 != t615) = true then (changeoverlaw23_KvoneKeeps.j1 kj3 l0 t592 true a1_0 a1_1 a1_2 a1_3 a1_4 a1_5 a1_6) else (if a1_0 = 2 then (if t597 = 0 then (if t605 = true then (if t603.toList = a1_4.toList then (if a1_0 = 4 then (changeoverlaw23_KvoneKeeps.j1 kj3 l0 t592 t605 a1_0 a1_1 a1_2 a1_3 a1_4 a1_5 a1_6) else (changeoverlaw23_KvoneKeeps.j1 kj3 l0 t592 false a1_0 a1_1 a1_2 a1_3 a1_4 a1_5 a1_6)) else (changeoverlaw23_KvoneKeeps.j1 kj3 l0 t592 true a1_0 a1_1 a1_2 a1_3 a1_4 a1_5 a1_6)) else (changeoverlaw23_KvoneKeeps.j1 kj3 l0 t592 true a1_0 a1_1 a1_2 a1_3 a1_4 a1_5 a1_6)) else (if a1_0 = 4 then (changeoverlaw23_KvoneKeeps.j1 kj3 l0 t592 t605 a1_0 a1_1 a1_2 a1_3 a1_4 a1_5 a1_6) else (changeoverlaw23_KvoneKeeps.j1 kj3 l0 t592 false a1_0 a1_1 a1_2 a1_3 a1_4 a1_5 a1_6))) else (if a1_0 = 4 then (changeoverlaw23_KvoneKeeps.j1 kj3 l0 t592 t605 a1_0 a1_1 a1_2 a1_3 a1_4 a1_5 a1_6) else (changeoverlaw23_KvoneKeeps.j1 kj3 l0 t592 false a1_0 a1_1 a1_2 a1_3 a1_4 a1_5 a1_6)))))) = some r := H
        have A24 := Aside0.mk A240
        clear A240
        have HC25 := Aside0.mk H
        clear H
        have hcz26_0 : wc.cell? ⟨gb587, 0, none⟩ = some (.int .i64 a1_0) := (blk_cell BK587.out 0).trans rfl
        have hcz26_1 : wc.cell? ⟨gb587, 1, none⟩ = some (.int .i64 a1_1) := (blk_cell BK587.out 1).trans rfl
        have hcz26_2 : wc.cell? ⟨gb587, 2, none⟩ = some (.int .i64 a1_2) := (blk_cell BK587.out 2).trans rfl
        have hcz26_3 : wc.cell? ⟨gb587, 3, none⟩ = some (.string a1_3) := (blk_cell BK587.out 3).trans rfl
        have hcz26_4 : wc.cell? ⟨gb587, 4, none⟩ = some (.string a1_4) := (blk_cell BK587.out 4).trans rfl
        have hcz26_5 : wc.cell? ⟨gb587, 5, none⟩ = some (.string a1_5) := (blk_cell BK587.out 5).trans rfl
        have hcz26_6 : wc.cell? ⟨gb587, 6, none⟩ = some (.int .i64 a1_6) := (blk_cell BK587.out 6).trans rfl
        have hfz26_0 := blk_frozen BK587.out 0
        have hfz26_1 := blk_frozen BK587.out 1
        have hfz26_2 := blk_frozen BK587.out 2
        have hfz26_3 := blk_frozen BK587.out 3
        have hfz26_4 := blk_frozen BK587.out 4
        have hfz26_5 := blk_frozen BK587.out 5
        have hfz26_6 := blk_frozen BK587.out 6
        go_upto_region 7 with (first | ((with_reducible refine gate_callee (f := 59) rfl ?_); refine goesL_ (some 36) rfl rfl Try.func59 (by kernel_rfl) rfl #[.slice A0 l0.length c0, .agg #[.int .i64 a1_0, .int .i64 a1_1, .int .i64 a1_2, .string a1_3, .string a1_4, .string a1_5, .int .i64 a1_6]] rfl (by (try simp only [List.map_toArray, List.map_cons, List.map_nil]); first | done | rfl | (simp only [List.length_drop, List.length_take]; rfl)) ?_; (with_reducible refine (kvone_Do.calls kj3 _ _ l0 a1_0 a1_1 a1_2 a1_3 a1_4 a1_5 a1_6 t592 t595 t596 t597 t598 t599 t600 _ ?side1 ?side2 A21.out).mono ?_); (case side1 => repeat (first | exact (Kd.C_below HR0.out HB.out) | (with_reducible refine Kd.C_alloc ?_ _) | (with_reducible refine Kd.C_drewN ?_ _) | (with_reducible refine Kd.C_drew ?_))); (case side2 => exact HC0.out); rintro e w27 ⟨v593, rfl, ho0, hb⟩; refine ⟨_, rfl, ?_⟩; have n0_ := Aside0.mk (Kd.R_lower ho0 (below_size (by repeat (first | (with_reducible first | exact HB.out | apply below_alloc | apply pw_below_drewN | apply below_drew1 | refine below_set ?_ GE587.out) | exact HB.out)))); have n1_ := Aside0.mk (blk_below (g := gb587) (o := .cells #[.int .i64 a1_0, .int .i64 a1_1, .int .i64 a1_2, .string a1_3, .string a1_4, .string a1_5, .int .i64 a1_6] 72 (0, 0)) (by (with_reducible repeat (first | refine blk_drewN ?_ _ | refine blk_drew ?_ | refine blk_alloc ?_ _)); exact BK587.out) hb); have n2_ := Aside0.mk (below_step (by repeat (first | (with_reducible first | exact HB.out | apply below_alloc | apply pw_below_drewN | apply below_drew1 | refine below_set ?_ GE587.out) | exact HB.out)) hb); clear BK587; clear HB; have HO594 := n0_; have BK587 := n1_; have HB := n2_; clear n0_ n1_ n2_; (try clear hb); (try clear hb2); (try clear hk); (try clear hi); (try clear ho0)) | ((with_reducible refine gate_dst (N := 8) rfl ?_); (try (refine gate_guard (by rfl) ?_; dsimp only)); refine box_event ?hg (N := 8) ?hd (cs := #[.int .i64 0, .int .i64 0, .int .i64 0, .bool false, .string (⟨#[]⟩ : ByteArray), .int .i64 0]) (t := 60) ?hr ?_; (case hd => rfl); (case hg => rfl); (case hr => first | (go_simp; done) | (go_simp; rfl)); intro gb601 hg w28 hbox hb; have n0_ := Aside0.mk (Kd.R_below (by (with_reducible repeat (first | apply Kd.R_alloc | apply Kd.R_drewN | apply Kd.R_drew)); exact HO594.out) hb); have n1_ := Aside0.mk (blk_below (g := gb587) (o := .cells #[.int .i64 a1_0, .int .i64 a1_1, .int .i64 a1_2, .string a1_3, .string a1_4, .string a1_5, .int .i64 a1_6] 72 (0, 0)) (by (with_reducible repeat (first | refine blk_drewN ?_ _ | refine blk_drew ?_ | refine blk_alloc ?_ _)); exact BK587.out) hb); have n2_ := Aside0.mk (below_step (by repeat (first | (with_reducible first | exact HB.out | apply below_alloc | apply pw_below_drewN | apply below_drew1 | refine below_set ?_ GE587.out) | exact HB.out)) hb); have n3_ := Aside0.mk (hbox); have n4_ := Aside0.mk ((by rw [hg]; exact (below_size (by repeat (first | (with_reducible first | exact HB.out | apply below_alloc | apply pw_below_drewN | apply below_drew1 | refine below_set ?_ GE587.out) | exact HB.out))) : w.heap.size ≤ gb601)); have n5_ := Aside0.mk ((by rw [hg]; exact (below_size (by repeat (first | (with_reducible first | exact HB.out | apply below_alloc | apply pw_below_drewN | apply below_drew1 | refine below_set ?_ GE587.out) | exact HB.out))) : w.heap.size ≤ gb601)); have n6_ := Aside0.mk ((by rw [hg]; exact Nat.ne_of_lt (blk_lt (g := gb587) (o := .cells #[.int .i64 a1_0, .int .i64 a1_1, .int .i64 a1_2, .string a1_3, .string a1_4, .string a1_5, .int .i64 a1_6] 72 (0, 0)) (by (with_reducible repeat (first | refine blk_drewN ?_ _ | refine blk_drew ?_ | refine blk_alloc ?_ _)); exact BK587.out)) : gb587 ≠ gb601)); have n7_ := Aside0.mk ((by rw [hg]; exact Nat.ne_of_gt (blk_lt (g := gb587) (o := .cells #[.int .i64 a1_0, .int .i64 a1_1, .int .i64 a1_2, .string a1_3, .string a1_4, .string a1_5, .int .i64 a1_6] 72 (0, 0)) (by (with_reducible repeat (first | refine blk_drewN ?_ _ | refine blk_drew ?_ | refine blk_alloc ?_ _)); exact BK587.out)) : gb601 ≠ gb587)); clear HO594; clear BK587; clear HB; have HO594 := n0_; have BK587 := n1_; have HB := n2_; have BK601 := n3_; have GW601 := n4_; have GE601 := n5_; have NB587_601 := n6_; have NB601_587 := n7_; clear n0_ n1_ n2_ n3_ n4_ n5_ n6_ n7_; clear hb hbox hg; have hnb29 := NB601_587.out; have hnc29 := NB587_601.out; have hcz30_0 : w28.cell? ⟨gb601, 0, none⟩ = some (.int .i64 0) := (blk_cell BK601.out 0).trans rfl; have hcz30_1 : w28.cell? ⟨gb601, 1, none⟩ = some (.int .i64 0) := (blk_cell BK601.out 1).trans rfl; have hcz30_2 : w28.cell? ⟨gb601, 2, none⟩ = some (.int .i64 0) := (blk_cell BK601.out 2).trans rfl; have hcz30_3 : w28.cell? ⟨gb601, 3, none⟩ = some (.bool false) := (blk_cell BK601.out 3).trans rfl; have hcz30_4 : w28.cell? ⟨gb601, 4, none⟩ = some (.string (⟨#[]⟩ : ByteArray)) := (blk_cell BK601.out 4).trans rfl; have hcz30_5 : w28.cell? ⟨gb601, 5, none⟩ = some (.int .i64 0) := (blk_cell BK601.out 5).trans rfl; have hfz30_0 := blk_frozen BK601.out 0; have hfz30_1 := blk_frozen BK601.out 1; have hfz30_2 := blk_frozen BK601.out 2; have hfz30_3 := blk_frozen BK601.out 3; have hfz30_4 := blk_frozen BK601.out 4; have hfz30_5 := blk_frozen BK601.out 5; have hcz31_0 : w28.cell? ⟨gb587, 0, none⟩ = some (.int .i64 a1_0) := (blk_cell BK587.out 0).trans rfl; have hcz31_1 : w28.cell? ⟨gb587, 1, none⟩ = some (.int .i64 a1_1) := (blk_cell BK587.out 1).trans rfl; have hcz31_2 : w28.cell? ⟨gb587, 2, none⟩ = some (.int .i64 a1_2) := (blk_cell BK587.out 2).trans rfl; have hcz31_3 : w28.cell? ⟨gb587, 3, none⟩ = some (.string a1_3) := (blk_cell BK587.out 3).trans rfl; have hcz31_4 : w28.cell? ⟨gb587, 4, none⟩ = some (.string a1_4) := (blk_cell BK587.out 4).trans rfl; have hcz31_5 : w28.cell? ⟨gb587, 5, none⟩ = some (.string a1_5) := (blk_cell BK587.out 5).trans rfl; have hcz31_6 : w28.cell? ⟨gb587, 6, none⟩ = some (.int .i64 a1_6) := (blk_cell BK587.out 6).trans rfl; have hfz31_0 := blk_frozen BK587.out 0; have hfz31_1 := blk_frozen BK587.out 1; have hfz31_2 := blk_frozen BK587.out 2; have hfz31_3 := blk_frozen BK587.out 3; have hfz31_4 := blk_frozen BK587.out 4; have hfz31_5 := blk_frozen BK587.out 5; have hfz31_6 := blk_frozen BK587.out 6; obtain ⟨Ao32, co32, eo32⟩ := Kd.R_slice HO594.out; subst eo32) | ((with_reducible refine gate_callee (f := 60) rfl ?_); refine goesL_ (some 43) rfl rfl Try.func60 (by kernel_rfl) rfl #[.slice Ao32 t592.length co32, .string a1_3] rfl (by (try simp only [List.map_toArray, List.map_cons, List.map_nil]); first | done | rfl | (simp only [List.length_drop, List.length_take]; rfl)) ?_; (with_reducible refine (kvone_Find.calls kj3 _ _ t592 a1_3 t602 t603 t604 t605 _ ?side1 ?side2 A22.out).mono ?_); (case side1 => refine (Kd.R_reads' (e := 78) (base := w.heap.size) (ok := fun k_ => True) (n := t592.length) (c := co32) ?_).2.2; exact (by (with_reducible repeat (first | apply Kd.R_alloc | apply Kd.R_drewN | apply Kd.R_drew)); exact (Kd.R_mono (Kd.R_far (p := ⟨gb601, 5, none⟩) (Kd.R_far (p := ⟨gb601, 4, none⟩) (Kd.R_far (p := ⟨gb601, 3, none⟩) (Kd.R_far (p := ⟨gb601, 2, none⟩) (Kd.R_far (p := ⟨gb601, 1, none⟩) (Kd.R_far (p := ⟨gb601, 0, none⟩) (Kd.R_types HO594.out BK601.out (by decide)) (fun _ hk => hk.2) (.int .i64 t595)) (fun _ hk => hk.2) (.int .i64 t596)) (fun _ hk => hk.2) (.int .i64 t597)) (fun _ hk => hk.2) (.bool t598)) (fun _ hk => hk.2) (.string t599)) (fun _ hk => hk.2) (.int .i64 t600)) (fun _ h_ => h_.1)))); (case side2 => exact (Kd.R_reads' HO594.out).2.1); rintro e w33 ⟨rfl, hb⟩; refine ⟨_, rfl, ?_⟩; have n0_ := Aside0.mk (Kd.R_below (by (with_reducible repeat (first | apply Kd.R_alloc | apply Kd.R_drewN | apply Kd.R_drew)); exact (Kd.R_mono (Kd.R_far (p := ⟨gb601, 5, none⟩) (Kd.R_far (p := ⟨gb601, 4, none⟩) (Kd.R_far (p := ⟨gb601, 3, none⟩) (Kd.R_far (p := ⟨gb601, 2, none⟩) (Kd.R_far (p := ⟨gb601, 1, none⟩) (Kd.R_far (p := ⟨gb601, 0, none⟩) (Kd.R_types HO594.out BK601.out (by decide)) (fun _ hk => hk.2) (.int .i64 t595)) (fun _ hk => hk.2) (.int .i64 t596)) (fun _ hk => hk.2) (.int .i64 t597)) (fun _ hk => hk.2) (.bool t598)) (fun _ hk => hk.2) (.string t599)) (fun _ hk => hk.2) (.int .i64 t600)) (fun _ h_ => h_.1))) hb); have n1_ := Aside0.mk (blk_below (g := gb587) (o := .cells #[.int .i64 a1_0, .int .i64 a1_1, .int .i64 a1_2, .string a1_3, .string a1_4, .string a1_5, .int .i64 a1_6] 72 (0, 0)) (by (with_reducible repeat (first | refine blk_drewN ?_ _ | refine blk_drew ?_ | refine blk_alloc ?_ _)); refine blk_far ?_ NB587_601.out _; (with_reducible repeat (first | refine blk_drewN ?_ _ | refine blk_drew ?_ | refine blk_alloc ?_ _)); refine blk_far ?_ NB587_601.out _; (with_reducible repeat (first | refine blk_drewN ?_ _ | refine blk_drew ?_ | refine blk_alloc ?_ _)); refine blk_far ?_ NB587_601.out _; (with_reducible repeat (first | refine blk_drewN ?_ _ | refine blk_drew ?_ | refine blk_alloc ?_ _)); refine blk_far ?_ NB587_601.out _; (with_reducible repeat (first | refine blk_drewN ?_ _ | refine blk_drew ?_ | refine blk_alloc ?_ _)); refine blk_far ?_ NB587_601.out _; (with_reducible repeat (first | refine blk_drewN ?_ _ | refine blk_drew ?_ | refine blk_alloc ?_ _)); refine blk_far ?_ NB587_601.out _; (with_reducible repeat (first | refine blk_drewN ?_ _ | refine blk_drew ?_ | refine blk_alloc ?_ _)); exact BK587.out) hb); have n2_ := Aside0.mk (blk_below (g := gb601) (o := .cells #[.int .i64 t595, .int .i64 t596, .int .i64 t597, .bool t598, .string t599, .int .i64 t600] 60 (0, 0)) (by (with_reducible repeat (first | refine blk_drewN ?_ _ | refine blk_drew ?_ | refine blk_alloc ?_ _)); refine blk_put (cs := #[.int .i64 t595, .int .i64 t596, .int .i64 t597, .bool t598, .string t599, .int .i64 0]) ?_ 5 _ rfl; (with_reducible repeat (first | refine blk_drewN ?_ _ | refine blk_drew ?_ | refine blk_alloc ?_ _)); refine blk_put (cs := #[.int .i64 t595, .int .i64 t596, .int .i64 t597, .bool t598, .string (⟨#[]⟩ : ByteArray), .int .i64 0]) ?_ 4 _ rfl; (with_reducible repeat (first | refine blk_drewN ?_ _ | refine blk_drew ?_ | refine blk_alloc ?_ _)); refine blk_put (cs := #[.int .i64 t595, .int .i64 t596, .int .i64 t597, .bool false, .string (⟨#[]⟩ : ByteArray), .int .i64 0]) ?_ 3 _ rfl; (with_reducible repeat (first | refine blk_drewN ?_ _ | refine blk_drew ?_ | refine blk_alloc ?_ _)); refine blk_put (cs := #[.int .i64 t595, .int .i64 t596, .int .i64 0, .bool false, .string (⟨#[]⟩ : ByteArray), .int .i64 0]) ?_ 2 _ rfl; (with_reducible repeat (first | refine blk_drewN ?_ _ | refine blk_drew ?_ | refine blk_alloc ?_ _)); refine blk_put (cs := #[.int .i64 t595, .int .i64 0, .int .i64 0, .bool false, .string (⟨#[]⟩ : ByteArray), .int .i64 0]) ?_ 1 _ rfl; (with_reducible repeat (first | refine blk_drewN ?_ _ | refine blk_drew ?_ | refine blk_alloc ?_ _)); refine blk_put (cs := #[.int .i64 0, .int .i64 0, .int .i64 0, .bool false, .string (⟨#[]⟩ : ByteArray), .int .i64 0]) ?_ 0 _ rfl; (with_reducible repeat (first | refine blk_drewN ?_ _ | refine blk_drew ?_ | refine blk_alloc ?_ _)); exact BK601.out) hb); have n3_ := Aside0.mk (below_step (by repeat (first | (with_reducible first | exact HB.out | apply below_alloc | apply pw_below_drewN | apply below_drew1 | refine below_set ?_ GE587.out | refine below_set ?_ GE601.out) | exact HB.out)) hb); clear HO594; clear BK587; clear BK601; clear HB; have HO594 := n0_; have BK587 := n1_; have BK601 := n2_; have HB := n3_; clear n0_ n1_ n2_ n3_; (try clear hb); (try clear hb2); (try clear hk); (try clear hi)) | ((with_reducible refine gate_dst (N := 9) rfl ?_); (try (refine gate_guard (by rfl) ?_; dsimp only)); refine box_event ?hg (N := 9) ?hd (cs := #[.string (⟨#[]⟩ : ByteArray), .string (⟨#[]⟩ : ByteArray), .int .i64 0]) (t := 78) ?hr ?_; (case hd => rfl); (case hg => rfl); (case hr => first | (go_simp; done) | (go_simp; rfl)); intro gb606 hg w34 hbox hb; have n0_ := Aside0.mk (Kd.R_below (Kd.R_elderB (by (with_reducible repeat (first | apply Kd.R_alloc | apply Kd.R_drewN | apply Kd.R_drew)); exact HO594.out) gb606 (Nat.le_of_eq hg.symm)) hb); have n1_ := Aside0.mk (blk_below (g := gb587) (o := .cells #[.int .i64 a1_0, .int .i64 a1_1, .int .i64 a1_2, .string a1_3, .string a1_4, .string a1_5, .int .i64 a1_6] 72 (0, 0)) (by (with_reducible repeat (first | refine blk_drewN ?_ _ | refine blk_drew ?_ | refine blk_alloc ?_ _)); exact BK587.out) hb); have n2_ := Aside0.mk (blk_below (g := gb601) (o := .cells #[.int .i64 t595, .int .i64 t596, .int .i64 t597, .bool t598, .string t599, .int .i64 t600] 60 (0, 0)) (by (with_reducible repeat (first | refine blk_drewN ?_ _ | refine blk_drew ?_ | refine blk_alloc ?_ _)); exact BK601.out) hb); have n3_ := Aside0.mk (below_step (by repeat (first | (with_reducible first | exact HB.out | apply below_alloc | apply pw_below_drewN | apply below_drew1 | refine below_set ?_ GE587.out | refine below_set ?_ GE601.out) | exact HB.out)) hb); have n4_ := Aside0.mk (hbox); have n5_ := Aside0.mk ((by rw [hg]; exact (below_size (by repeat (first | (with_reducible first | exact HB.out | apply below_alloc | apply pw_below_drewN | apply below_drew1 | refine below_set ?_ GE587.out | refine below_set ?_ GE601.out) | exact HB.out))) : w.heap.size ≤ gb606)); have n6_ := Aside0.mk ((by rw [hg]; exact (below_size (by repeat (first | (with_reducible first | exact HB.out | apply below_alloc | apply pw_below_drewN | apply below_drew1 | refine below_set ?_ GE587.out | refine below_set ?_ GE601.out) | exact HB.out))) : w.heap.size ≤ gb606)); have n7_ := Aside0.mk ((by rw [hg]; exact Nat.ne_of_lt (blk_lt (g := gb587) (o := .cells #[.int .i64 a1_0, .int .i64 a1_1, .int .i64 a1_2, .string a1_3, .string a1_4, .string a1_5, .int .i64 a1_6] 72 (0, 0)) (by (with_reducible repeat (first | refine blk_drewN ?_ _ | refine blk_drew ?_ | refine blk_alloc ?_ _)); exact BK587.out)) : gb587 ≠ gb606)); have n8_ := Aside0.mk ((by rw [hg]; exact Nat.ne_of_gt (blk_lt (g := gb587) (o := .cells #[.int .i64 a1_0, .int .i64 a1_1, .int .i64 a1_2, .string a1_3, .string a1_4, .string a1_5, .int .i64 a1_6] 72 (0, 0)) (by (with_reducible repeat (first | refine blk_drewN ?_ _ | refine blk_drew ?_ | refine blk_alloc ?_ _)); exact BK587.out)) : gb606 ≠ gb587)); have n9_ := Aside0.mk ((by rw [hg]; exact Nat.ne_of_lt (blk_lt (g := gb601) (o := .cells #[.int .i64 t595, .int .i64 t596, .int .i64 t597, .bool t598, .string t599, .int .i64 t600] 60 (0, 0)) (by (with_reducible repeat (first | refine blk_drewN ?_ _ | refine blk_drew ?_ | refine blk_alloc ?_ _)); exact BK601.out)) : gb601 ≠ gb606)); have n10_ := Aside0.mk ((by rw [hg]; exact Nat.ne_of_gt (blk_lt (g := gb601) (o := .cells #[.int .i64 t595, .int .i64 t596, .int .i64 t597, .bool t598, .string t599, .int .i64 t600] 60 (0, 0)) (by (with_reducible repeat (first | refine blk_drewN ?_ _ | refine blk_drew ?_ | refine blk_alloc ?_ _)); exact BK601.out)) : gb606 ≠ gb601)); clear HO594; clear BK587; clear BK601; clear HB; have HO594 := n0_; have BK587 := n1_; have BK601 := n2_; have HB := n3_; have BK606 := n4_; have GW606 := n5_; have GE606 := n6_; have NB587_606 := n7_; have NB606_587 := n8_; have NB601_606 := n9_; have NB606_601 := n10_; clear n0_ n1_ n2_ n3_ n4_ n5_ n6_ n7_ n8_ n9_ n10_; clear hb hbox hg; have hnb35 := NB606_587.out; have hnc35 := NB587_606.out; have hnb36 := NB606_601.out; have hnc36 := NB601_606.out; have hcz37_0 : w34.cell? ⟨gb606, 0, none⟩ = some (.string (⟨#[]⟩ : ByteArray)) := (blk_cell BK606.out 0).trans rfl; have hcz37_1 : w34.cell? ⟨gb606, 1, none⟩ = some (.string (⟨#[]⟩ : ByteArray)) := (blk_cell BK606.out 1).trans rfl; have hcz37_2 : w34.cell? ⟨gb606, 2, none⟩ = some (.int .i64 0) := (blk_cell BK606.out 2).trans rfl; have hfz37_0 := blk_frozen BK606.out 0; have hfz37_1 := blk_frozen BK606.out 1; have hfz37_2 := blk_frozen BK606.out 2) | ((with_reducible refine gate_callee (f := 60) rfl ?_); refine goesL_ (some 49) rfl rfl Try.func60 (by kernel_rfl) rfl #[.slice Ao32 t592.length co32, .string a2] rfl (by (try simp only [List.map_toArray, List.map_cons, List.map_nil]); first | done | rfl | (simp only [List.length_drop, List.length_take]; rfl)) ?_; (with_reducible refine (kvone_Find.calls kj3 _ _ t592 a2 t607 t608 t609 t610 _ ?side1 ?side2 A23.out).mono ?_); (case side1 => refine (Kd.R_reads' (e := 78) (base := w.heap.size) (ok := fun k_ => (True ∧ k_ ≠ gb606)) (n := t592.length) (c := co32) ?_).2.2; exact (by (with_reducible repeat (first | apply Kd.R_alloc | apply Kd.R_drewN | apply Kd.R_drew)); exact (Kd.R_mono (Kd.R_far (p := ⟨gb606, 2, none⟩) (Kd.R_far (p := ⟨gb606, 1, none⟩) (Kd.R_far (p := ⟨gb606, 0, none⟩) (Kd.R_mono HO594.out (fun k_ hk => (⟨hk, hk.2⟩ : _ ∧ k_ ≠ gb606))) (fun _ hk => hk.2) (.string t602)) (fun _ hk => hk.2) (.string t603)) (fun _ hk => hk.2) (.int .i64 t604)) (fun _ h_ => h_.1)))); (case side2 => exact (Kd.R_reads' HO594.out).2.1); rintro e w38 ⟨rfl, hb⟩; refine ⟨_, rfl, ?_⟩; have n0_ := Aside0.mk (Kd.R_below (by (with_reducible repeat (first | apply Kd.R_alloc | apply Kd.R_drewN | apply Kd.R_drew)); exact (Kd.R_mono (Kd.R_far (p := ⟨gb606, 2, none⟩) (Kd.R_far (p := ⟨gb606, 1, none⟩) (Kd.R_far (p := ⟨gb606, 0, none⟩) (Kd.R_mono HO594.out (fun k_ hk => (⟨hk, hk.2⟩ : _ ∧ k_ ≠ gb606))) (fun _ hk => hk.2) (.string t602)) (fun _ hk => hk.2) (.string t603)) (fun _ hk => hk.2) (.int .i64 t604)) (fun _ h_ => h_.1))) hb); have n1_ := Aside0.mk (blk_below (g := gb587) (o := .cells #[.int .i64 a1_0, .int .i64 a1_1, .int .i64 a1_2, .string a1_3, .string a1_4, .string a1_5, .int .i64 a1_6] 72 (0, 0)) (by (with_reducible repeat (first | refine blk_drewN ?_ _ | refine blk_drew ?_ | refine blk_alloc ?_ _)); refine blk_far ?_ NB587_606.out _; (with_reducible repeat (first | refine blk_drewN ?_ _ | refine blk_drew ?_ | refine blk_alloc ?_ _)); refine blk_far ?_ NB587_606.out _; (with_reducible repeat (first | refine blk_drewN ?_ _ | refine blk_drew ?_ | refine blk_alloc ?_ _)); refine blk_far ?_ NB587_606.out _; (with_reducible repeat (first | refine blk_drewN ?_ _ | refine blk_drew ?_ | refine blk_alloc ?_ _)); exact BK587.out) hb); have n2_ := Aside0.mk (blk_below (g := gb601) (o := .cells #[.int .i64 t595, .int .i64 t596, .int .i64 t597, .bool t598, .string t599, .int .i64 t600] 60 (0, 0)) (by (with_reducible repeat (first | refine blk_drewN ?_ _ | refine blk_drew ?_ | refine blk_alloc ?_ _)); refine blk_far ?_ NB601_606.out _; (with_reducible repeat (first | refine blk_drewN ?_ _ | refine blk_drew ?_ | refine blk_alloc ?_ _)); refine blk_far ?_ NB601_606.out _; (with_reducible repeat (first | refine blk_drewN ?_ _ | refine blk_drew ?_ | refine blk_alloc ?_ _)); refine blk_far ?_ NB601_606.out _; (with_reducible repeat (first | refine blk_drewN ?_ _ | refine blk_drew ?_ | refine blk_alloc ?_ _)); exact BK601.out) hb); have n3_ := Aside0.mk (blk_below (g := gb606) (o := .cells #[.string t602, .string t603, .int .i64 t604] 78 (0, 0)) (by (with_reducible repeat (first | refine blk_drewN ?_ _ | refine blk_drew ?_ | refine blk_alloc ?_ _)); refine blk_put (cs := #[.string t602, .string t603, .int .i64 0]) ?_ 2 _ rfl; (with_reducible repeat (first | refine blk_drewN ?_ _ | refine blk_drew ?_ | refine blk_alloc ?_ _)); refine blk_put (cs := #[.string t602, .string (⟨#[]⟩ : ByteArray), .int .i64 0]) ?_ 1 _ rfl; (with_reducible repeat (first | refine blk_drewN ?_ _ | refine blk_drew ?_ | refine blk_alloc ?_ _)); refine blk_put (cs := #[.string (⟨#[]⟩ : ByteArray), .string (⟨#[]⟩ : ByteArray), .int .i64 0]) ?_ 0 _ rfl; (with_reducible repeat (first | refine blk_drewN ?_ _ | refine blk_drew ?_ | refine blk_alloc ?_ _)); exact BK606.out) hb); have n4_ := Aside0.mk (below_step (by repeat (first | (with_reducible first | exact HB.out | apply below_alloc | apply pw_below_drewN | apply below_drew1 | refine below_set ?_ GE587.out | refine below_set ?_ GE601.out | refine below_set ?_ GE606.out) | exact HB.out)) hb); clear HO594; clear BK587; clear BK601; clear BK606; clear HB; have HO594 := n0_; have BK587 := n1_; have BK601 := n2_; have BK606 := n3_; have HB := n4_; clear n0_ n1_ n2_ n3_ n4_; (try clear hb); (try clear hb2); (try clear hk); (try clear hi)) | ((with_reducible refine gate_dst (N := 11) rfl ?_); (try (refine gate_guard (by rfl) ?_; dsimp only)); refine box_event ?hg (N := 11) ?hd (cs := #[.string (⟨#[]⟩ : ByteArray), .string (⟨#[]⟩ : ByteArray), .int .i64 0]) (t := 78) ?hr ?_; (case hd => rfl); (case hg => rfl); (case hr => first | (go_simp; done) | (go_simp; rfl)); intro gb611 hg w39 hbox hb; have n0_ := Aside0.mk (Kd.R_below (Kd.R_elderB (by (with_reducible repeat (first | apply Kd.R_alloc | apply Kd.R_drewN | apply Kd.R_drew)); exact HO594.out) gb611 (Nat.le_of_eq hg.symm)) hb); have n1_ := Aside0.mk (blk_below (g := gb587) (o := .cells #[.int .i64 a1_0, .int .i64 a1_1, .int .i64 a1_2, .string a1_3, .string a1_4, .string a1_5, .int .i64 a1_6] 72 (0, 0)) (by (with_reducible repeat (first | refine blk_drewN ?_ _ | refine blk_drew ?_ | refine blk_alloc ?_ _)); exact BK587.out) hb); have n2_ := Aside0.mk (blk_below (g := gb601) (o := .cells #[.int .i64 t595, .int .i64 t596, .int .i64 t597, .bool t598, .string t599, .int .i64 t600] 60 (0, 0)) (by (with_reducible repeat (first | refine blk_drewN ?_ _ | refine blk_drew ?_ | refine blk_alloc ?_ _)); exact BK601.out) hb); have n3_ := Aside0.mk (blk_below (g := gb606) (o := .cells #[.string t602, .string t603, .int .i64 t604] 78 (0, 0)) (by (with_reducible repeat (first | refine blk_drewN ?_ _ | refine blk_drew ?_ | refine blk_alloc ?_ _)); exact BK606.out) hb); have n4_ := Aside0.mk (below_step (by repeat (first | (with_reducible first | exact HB.out | apply below_alloc | apply pw_below_drewN | apply below_drew1 | refine below_set ?_ GE587.out | refine below_set ?_ GE601.out | refine below_set ?_ GE606.out) | exact HB.out)) hb); have n5_ := Aside0.mk (hbox); have n6_ := Aside0.mk ((by rw [hg]; exact (below_size (by repeat (first | (with_reducible first | exact HB.out | apply below_alloc | apply pw_below_drewN | apply below_drew1 | refine below_set ?_ GE587.out | refine below_set ?_ GE601.out | refine below_set ?_ GE606.out) | exact HB.out))) : w.heap.size ≤ gb611)); have n7_ := Aside0.mk ((by rw [hg]; exact (below_size (by repeat (first | (with_reducible first | exact HB.out | apply below_alloc | apply pw_below_drewN | apply below_drew1 | refine below_set ?_ GE587.out | refine below_set ?_ GE601.out | refine below_set ?_ GE606.out) | exact HB.out))) : w.heap.size ≤ gb611)); have n8_ := Aside0.mk ((by rw [hg]; exact Nat.ne_of_lt (blk_lt (g := gb587) (o := .cells #[.int .i64 a1_0, .int .i64 a1_1, .int .i64 a1_2, .string a1_3, .string a1_4, .string a1_5, .int .i64 a1_6] 72 (0, 0)) (by (with_reducible repeat (first | refine blk_drewN ?_ _ | refine blk_drew ?_ | refine blk_alloc ?_ _)); exact BK587.out)) : gb587 ≠ gb611)); have n9_ := Aside0.mk ((by rw [hg]; exact Nat.ne_of_gt (blk_lt (g := gb587) (o := .cells #[.int .i64 a1_0, .int .i64 a1_1, .int .i64 a1_2, .string a1_3, .string a1_4, .string a1_5, .int .i64 a1_6] 72 (0, 0)) (by (with_reducible repeat (first | refine blk_drewN ?_ _ | refine blk_drew ?_ | refine blk_alloc ?_ _)); exact BK587.out)) : gb611 ≠ gb587)); have n10_ := Aside0.mk ((by rw [hg]; exact Nat.ne_of_lt (blk_lt (g := gb601) (o := .cells #[.int .i64 t595, .int .i64 t596, .int .i64 t597, .bool t598, .string t599, .int .i64 t600] 60 (0, 0)) (by (with_reducible repeat (first | refine blk_drewN ?_ _ | refine blk_drew ?_ | refine blk_alloc ?_ _)); exact BK601.out)) : gb601 ≠ gb611)); have n11_ := Aside0.mk ((by rw [hg]; exact Nat.ne_of_gt (blk_lt (g := gb601) (o := .cells #[.int .i64 t595, .int .i64 t596, .int .i64 t597, .bool t598, .string t599, .int .i64 t600] 60 (0, 0)) (by (with_reducible repeat (first | refine blk_drewN ?_ _ | refine blk_drew ?_ | refine blk_alloc ?_ _)); exact BK601.out)) : gb611 ≠ gb601)); have n12_ := Aside0.mk ((by rw [hg]; exact Nat.ne_of_lt (blk_lt (g := gb606) (o := .cells #[.string t602, .string t603, .int .i64 t604] 78 (0, 0)) (by (with_reducible repeat (first | refine blk_drewN ?_ _ | refine blk_drew ?_ | refine blk_alloc ?_ _)); exact BK606.out)) : gb606 ≠ gb611)); have n13_ := Aside0.mk ((by rw [hg]; exact Nat.ne_of_gt (blk_lt (g := gb606) (o := .cells #[.string t602, .string t603, .int .i64 t604] 78 (0, 0)) (by (with_reducible repeat (first | refine blk_drewN ?_ _ | refine blk_drew ?_ | refine blk_alloc ?_ _)); exact BK606.out)) : gb611 ≠ gb606)); clear HO594; clear BK587; clear BK601; clear BK606; clear HB; have HO594 := n0_; have BK587 := n1_; have BK601 := n2_; have BK606 := n3_; have HB := n4_; have BK611 := n5_; have GW611 := n6_; have GE611 := n7_; have NB587_611 := n8_; have NB611_587 := n9_; have NB601_611 := n10_; have NB611_601 := n11_; have NB606_611 := n12_; have NB611_606 := n13_; clear n0_ n1_ n2_ n3_ n4_ n5_ n6_ n7_ n8_ n9_ n10_ n11_ n12_ n13_; clear hb hbox hg; have hnb40 := NB611_587.out; have hnc40 := NB587_611.out; have hnb41 := NB611_601.out; have hnc41 := NB601_611.out; have hnb42 := NB611_606.out; have hnc42 := NB606_611.out; have hcz43_0 : w39.cell? ⟨gb611, 0, none⟩ = some (.string (⟨#[]⟩ : ByteArray)) := (blk_cell BK611.out 0).trans rfl; have hcz43_1 : w39.cell? ⟨gb611, 1, none⟩ = some (.string (⟨#[]⟩ : ByteArray)) := (blk_cell BK611.out 1).trans rfl; have hcz43_2 : w39.cell? ⟨gb611, 2, none⟩ = some (.int .i64 0) := (blk_cell BK611.out 2).trans rfl; have hfz43_0 := blk_frozen BK611.out 0; have hfz43_1 := blk_frozen BK611.out 1; have hfz43_2 := blk_frozen BK611.out 2) | ((with_reducible refine gate_callee (f := 60) rfl ?_); refine goesL_ (some 55) rfl rfl Try.func60 (by kernel_rfl) rfl #[.slice A0 l0.length c0, .string a2] rfl (by (try simp only [List.map_toArray, List.map_cons, List.map_nil]); first | done | rfl | (simp only [List.length_drop, List.length_take]; rfl)) ?_; (with_reducible refine (kvone_Find.calls kj3 _ _ l0 a2 t612 t613 t614 t615 _ ?side1 ?side2 A24.out).mono ?_); (case side1 => exact Kd.C_below HR0.out (by repeat (first | (with_reducible first | exact HB.out | apply below_alloc | apply pw_below_drewN | apply below_drew1 | refine below_set ?_ GE587.out | refine below_set ?_ GE601.out | refine below_set ?_ GE606.out | refine below_set ?_ GE611.out) | exact HB.out))); (case side2 => exact HC0.out); rintro e w44 ⟨rfl, hb⟩; refine ⟨_, rfl, ?_⟩; have n0_ := Aside0.mk (Kd.R_below (by (with_reducible repeat (first | apply Kd.R_alloc | apply Kd.R_drewN | apply Kd.R_drew)); exact (Kd.R_mono (Kd.R_far (p := ⟨gb611, 2, none⟩) (Kd.R_far (p := ⟨gb611, 1, none⟩) (Kd.R_far (p := ⟨gb611, 0, none⟩) (Kd.R_mono HO594.out (fun k_ hk => (⟨hk, hk.2⟩ : _ ∧ k_ ≠ gb611))) (fun _ hk => hk.2) (.string t607)) (fun _ hk => hk.2) (.string t608)) (fun _ hk => hk.2) (.int .i64 t609)) (fun _ h_ => h_.1))) hb); have n1_ := Aside0.mk (blk_below (g := gb587) (o := .cells #[.int .i64 a1_0, .int .i64 a1_1, .int .i64 a1_2, .string a1_3, .string a1_4, .string a1_5, .int .i64 a1_6] 72 (0, 0)) (by (with_reducible repeat (first | refine blk_drewN ?_ _ | refine blk_drew ?_ | refine blk_alloc ?_ _)); refine blk_far ?_ NB587_611.out _; (with_reducible repeat (first | refine blk_drewN ?_ _ | refine blk_drew ?_ | refine blk_alloc ?_ _)); refine blk_far ?_ NB587_611.out _; (with_reducible repeat (first | refine blk_drewN ?_ _ | refine blk_drew ?_ | refine blk_alloc ?_ _)); refine blk_far ?_ NB587_611.out _; (with_reducible repeat (first | refine blk_drewN ?_ _ | refine blk_drew ?_ | refine blk_alloc ?_ _)); exact BK587.out) hb); have n2_ := Aside0.mk (blk_below (g := gb601) (o := .cells #[.int .i64 t595, .int .i64 t596, .int .i64 t597, .bool t598, .string t599, .int .i64 t600] 60 (0, 0)) (by (with_reducible repeat (first | refine blk_drewN ?_ _ | refine blk_drew ?_ | refine blk_alloc ?_ _)); refine blk_far ?_ NB601_611.out _; (with_reducible repeat (first | refine blk_drewN ?_ _ | refine blk_drew ?_ | refine blk_alloc ?_ _)); refine blk_far ?_ NB601_611.out _; (with_reducible repeat (first | refine blk_drewN ?_ _ | refine blk_drew ?_ | refine blk_alloc ?_ _)); refine blk_far ?_ NB601_611.out _; (with_reducible repeat (first | refine blk_drewN ?_ _ | refine blk_drew ?_ | refine blk_alloc ?_ _)); exact BK601.out) hb); have n3_ := Aside0.mk (blk_below (g := gb606) (o := .cells #[.string t602, .string t603, .int .i64 t604] 78 (0, 0)) (by (with_reducible repeat (first | refine blk_drewN ?_ _ | refine blk_drew ?_ | refine blk_alloc ?_ _)); refine blk_far ?_ NB606_611.out _; (with_reducible repeat (first | refine blk_drewN ?_ _ | refine blk_drew ?_ | refine blk_alloc ?_ _)); refine blk_far ?_ NB606_611.out _; (with_reducible repeat (first | refine blk_drewN ?_ _ | refine blk_drew ?_ | refine blk_alloc ?_ _)); refine blk_far ?_ NB606_611.out _; (with_reducible repeat (first | refine blk_drewN ?_ _ | refine blk_drew ?_ | refine blk_alloc ?_ _)); exact BK606.out) hb); have n4_ := Aside0.mk (blk_below (g := gb611) (o := .cells #[.string t607, .string t608, .int .i64 t609] 78 (0, 0)) (by (with_reducible repeat (first | refine blk_drewN ?_ _ | refine blk_drew ?_ | refine blk_alloc ?_ _)); refine blk_put (cs := #[.string t607, .string t608, .int .i64 0]) ?_ 2 _ rfl; (with_reducible repeat (first | refine blk_drewN ?_ _ | refine blk_drew ?_ | refine blk_alloc ?_ _)); refine blk_put (cs := #[.string t607, .string (⟨#[]⟩ : ByteArray), .int .i64 0]) ?_ 1 _ rfl; (with_reducible repeat (first | refine blk_drewN ?_ _ | refine blk_drew ?_ | refine blk_alloc ?_ _)); refine blk_put (cs := #[.string (⟨#[]⟩ : ByteArray), .string (⟨#[]⟩ : ByteArray), .int .i64 0]) ?_ 0 _ rfl; (with_reducible repeat (first | refine blk_drewN ?_ _ | refine blk_drew ?_ | refine blk_alloc ?_ _)); exact BK611.out) hb); have n5_ := Aside0.mk (below_step (by repeat (first | (with_reducible first | exact HB.out | apply below_alloc | apply pw_below_drewN | apply below_drew1 | refine below_set ?_ GE587.out | refine below_set ?_ GE601.out | refine below_set ?_ GE606.out | refine below_set ?_ GE611.out) | exact HB.out)) hb); clear HO594; clear BK587; clear BK601; clear BK606; clear BK611; clear HB; have HO594 := n0_; have BK587 := n1_; have BK601 := n2_; have BK606 := n3_; have BK611 := n4_; have HB := n5_; clear n0_ n1_ n2_ n3_ n4_ n5_; (try clear hb); (try clear hb2); (try clear hk); (try clear hi)) | ((with_reducible refine gate_dst (N := 13) rfl ?_); (try (refine gate_guard (by rfl) ?_; dsimp only)); refine box_event ?hg (N := 13) ?hd (cs := #[.string (⟨#[]⟩ : ByteArray), .string (⟨#[]⟩ : ByteArray), .int .i64 0]) (t := 78) ?hr ?_; (case hd => rfl); (case hg => rfl); (case hr => first | (go_simp; done) | (go_simp; rfl)); intro gb616 hg w45 hbox hb; have n0_ := Aside0.mk (Kd.R_below (Kd.R_elderB (by (with_reducible repeat (first | apply Kd.R_alloc | apply Kd.R_drewN | apply Kd.R_drew)); exact HO594.out) gb616 (Nat.le_of_eq hg.symm)) hb); have n1_ := Aside0.mk (blk_below (g := gb587) (o := .cells #[.int .i64 a1_0, .int .i64 a1_1, .int .i64 a1_2, .string a1_3, .string a1_4, .string a1_5, .int .i64 a1_6] 72 (0, 0)) (by (with_reducible repeat (first | refine blk_drewN ?_ _ | refine blk_drew ?_ | refine blk_alloc ?_ _)); exact BK587.out) hb); have n2_ := Aside0.mk (blk_below (g := gb601) (o := .cells #[.int .i64 t595, .int .i64 t596, .int .i64 t597, .bool t598, .string t599, .int .i64 t600] 60 (0, 0)) (by (with_reducible repeat (first | refine blk_drewN ?_ _ | refine blk_drew ?_ | refine blk_alloc ?_ _)); exact BK601.out) hb); have n3_ := Aside0.mk (blk_below (g := gb606) (o := .cells #[.string t602, .string t603, .int .i64 t604] 78 (0, 0)) (by (with_reducible repeat (first | refine blk_drewN ?_ _ | refine blk_drew ?_ | refine blk_alloc ?_ _)); exact BK606.out) hb); have n4_ := Aside0.mk (blk_below (g := gb611) (o := .cells #[.string t607, .string t608, .int .i64 t609] 78 (0, 0)) (by (with_reducible repeat (first | refine blk_drewN ?_ _ | refine blk_drew ?_ | refine blk_alloc ?_ _)); exact BK611.out) hb); have n5_ := Aside0.mk (below_step (by repeat (first | (with_reducible first | exact HB.out | apply below_alloc | apply pw_below_drewN | apply below_drew1 | refine below_set ?_ GE587.out | refine below_set ?_ GE601.out | refine below_set ?_ GE606.out | refine below_set ?_ GE611.out) | exact HB.out)) hb); have n6_ := Aside0.mk (hbox); have n7_ := Aside0.mk ((by rw [hg]; exact (below_size (by repeat (first | (with_reducible first | exact HB.out | apply below_alloc | apply pw_below_drewN | apply below_drew1 | refine below_set ?_ GE587.out | refine below_set ?_ GE601.out | refine below_set ?_ GE606.out | refine below_set ?_ GE611.out) | exact HB.out))) : w.heap.size ≤ gb616)); have n8_ := Aside0.mk ((by rw [hg]; exact (below_size (by repeat (first | (with_reducible first | exact HB.out | apply below_alloc | apply pw_below_drewN | apply below_drew1 | refine below_set ?_ GE587.out | refine below_set ?_ GE601.out | refine below_set ?_ GE606.out | refine below_set ?_ GE611.out) | exact HB.out))) : w.heap.size ≤ gb616)); have n9_ := Aside0.mk ((by rw [hg]; exact Nat.ne_of_lt (blk_lt (g := gb587) (o := .cells #[.int .i64 a1_0, .int .i64 a1_1, .int .i64 a1_2, .string a1_3, .string a1_4, .string a1_5, .int .i64 a1_6] 72 (0, 0)) (by (with_reducible repeat (first | refine blk_drewN ?_ _ | refine blk_drew ?_ | refine blk_alloc ?_ _)); exact BK587.out)) : gb587 ≠ gb616)); have n10_ := Aside0.mk ((by rw [hg]; exact Nat.ne_of_gt (blk_lt (g := gb587) (o := .cells #[.int .i64 a1_0, .int .i64 a1_1, .int .i64 a1_2, .string a1_3, .string a1_4, .string a1_5, .int .i64 a1_6] 72 (0, 0)) (by (with_reducible repeat (first | refine blk_drewN ?_ _ | refine blk_drew ?_ | refine blk_alloc ?_ _)); exact BK587.out)) : gb616 ≠ gb587)); have n11_ := Aside0.mk ((by rw [hg]; exact Nat.ne_of_lt (blk_lt (g := gb601) (o := .cells #[.int .i64 t595, .int .i64 t596, .int .i64 t597, .bool t598, .string t599, .int .i64 t600] 60 (0, 0)) (by (with_reducible repeat (first | refine blk_drewN ?_ _ | refine blk_drew ?_ | refine blk_alloc ?_ _)); exact BK601.out)) : gb601 ≠ gb616)); have n12_ := Aside0.mk ((by rw [hg]; exact Nat.ne_of_gt (blk_lt (g := gb601) (o := .cells #[.int .i64 t595, .int .i64 t596, .int .i64 t597, .bool t598, .string t599, .int .i64 t600] 60 (0, 0)) (by (with_reducible repeat (first | refine blk_drewN ?_ _ | refine blk_drew ?_ | refine blk_alloc ?_ _)); exact BK601.out)) : gb616 ≠ gb601)); have n13_ := Aside0.mk ((by rw [hg]; exact Nat.ne_of_lt (blk_lt (g := gb606) (o := .cells #[.string t602, .string t603, .int .i64 t604] 78 (0, 0)) (by (with_reducible repeat (first | refine blk_drewN ?_ _ | refine blk_drew ?_ | refine blk_alloc ?_ _)); exact BK606.out)) : gb606 ≠ gb616)); have n14_ := Aside0.mk ((by rw [hg]; exact Nat.ne_of_gt (blk_lt (g := gb606) (o := .cells #[.string t602, .string t603, .int .i64 t604] 78 (0, 0)) (by (with_reducible repeat (first | refine blk_drewN ?_ _ | refine blk_drew ?_ | refine blk_alloc ?_ _)); exact BK606.out)) : gb616 ≠ gb606)); have n15_ := Aside0.mk ((by rw [hg]; exact Nat.ne_of_lt (blk_lt (g := gb611) (o := .cells #[.string t607, .string t608, .int .i64 t609] 78 (0, 0)) (by (with_reducible repeat (first | refine blk_drewN ?_ _ | refine blk_drew ?_ | refine blk_alloc ?_ _)); exact BK611.out)) : gb611 ≠ gb616)); have n16_ := Aside0.mk ((by rw [hg]; exact Nat.ne_of_gt (blk_lt (g := gb611) (o := .cells #[.string t607, .string t608, .int .i64 t609] 78 (0, 0)) (by (with_reducible repeat (first | refine blk_drewN ?_ _ | refine blk_drew ?_ | refine blk_alloc ?_ _)); exact BK611.out)) : gb616 ≠ gb611)); clear HO594; clear BK587; clear BK601; clear BK606; clear BK611; clear HB; have HO594 := n0_; have BK587 := n1_; have BK601 := n2_; have BK606 := n3_; have BK611 := n4_; have HB := n5_; have BK616 := n6_; have GW616 := n7_; have GE616 := n8_; have NB587_616 := n9_; have NB616_587 := n10_; have NB601_616 := n11_; have NB616_601 := n12_; have NB606_616 := n13_; have NB616_606 := n14_; have NB611_616 := n15_; have NB616_611 := n16_; clear n0_ n1_ n2_ n3_ n4_ n5_ n6_ n7_ n8_ n9_ n10_ n11_ n12_ n13_ n14_ n15_ n16_; clear hb hbox hg; have hnb46 := NB616_587.out; have hnc46 := NB587_616.out; have hnb47 := NB616_601.out; have hnc47 := NB601_616.out; have hnb48 := NB616_606.out; have hnc48 := NB606_616.out; have hnb49 := NB616_611.out; have hnc49 := NB611_616.out; have hcz50_0 : w45.cell? ⟨gb616, 0, none⟩ = some (.string (⟨#[]⟩ : ByteArray)) := (blk_cell BK616.out 0).trans rfl; have hcz50_1 : w45.cell? ⟨gb616, 1, none⟩ = some (.string (⟨#[]⟩ : ByteArray)) := (blk_cell BK616.out 1).trans rfl; have hcz50_2 : w45.cell? ⟨gb616, 2, none⟩ = some (.int .i64 0) := (blk_cell BK616.out 2).trans rfl; have hfz50_0 := blk_frozen BK616.out 0; have hfz50_1 := blk_frozen BK616.out 1; have hfz50_2 := blk_frozen BK616.out 2))
        (try simp only [Act.put, List.setIfInBounds_toArray, List.set_cons_zero, List.set_cons_succ])
        go_cut [100] (fun v100 wc => ∃ (kq : Nat) (x100_24 : Bool), v100 = .bool x100_24 ∧ Aside0 (changeoverlaw23_KvoneKeeps.j1 kq l0 t592 x100_24 a1_0 a1_1 a1_2 a1_3 a1_4 a1_5 a1_6 = some r) ∧ Aside0 (kq ≤ kj3) ∧ Aside0 (Kd.R k78 78 wc w.heap.size (fun k_ => k_ ≠ gb606 ∧ k_ ≠ gb611 ∧ k_ ≠ gb616) (.slice Ao32 t592.length co32) t592) ∧ Aside0 (wc.heap[gb587]? = some (.cells #[.int .i64 a1_0, .int .i64 a1_1, .int .i64 a1_2, .string a1_3, .string a1_4, .string a1_5, .int .i64 a1_6] 72 (0, 0))) ∧ Aside0 (wc.heap[gb601]? = some (.cells #[.int .i64 t595, .int .i64 t596, .int .i64 t597, .bool t598, .string t599, .int .i64 t600] 60 (0, 0))) ∧ Aside0 (wc.heap[gb606]? = some (.cells #[.string t602, .string t603, .int .i64 t604] 78 (0, 0))) ∧ Aside0 (wc.heap[gb611]? = some (.cells #[.string t607, .string t608, .int .i64 t609] 78 (0, 0))) ∧ Aside0 (wc.heap[gb616]? = some (.cells #[.string t612, .string t613, .int .i64 t614] 78 (0, 0))) ∧ Aside0 (Below w.heap.size w wc))
        case first =>
          have H := HC25.out
          clear HC25
          by_cases c51 : a2.toList = a1_3.toList
          · rw [if_pos c51] at H
            have c51b0 : (a2.toList == a1_3.toList) = true := beq_iff_eq.mpr c51
            have c51b1 : (a2.toList != a1_3.toList) = false := bne_eq_false_iff_eq.mpr c51
            clear c51
            (first | rw [c51b0] | (simp only [i64_w, i32_w]; rw [c51b0]) | skip)
            by_cases c52 : a1_0 = 2
            · rw [if_pos c52] at H
              have c52b0 : (a1_0 == 2) = true := beq_iff_eq.mpr c52
              have c52b1 : (a1_0 != 2) = false := bne_eq_false_iff_eq.mpr c52
              clear c52
              by_cases c53 : t597 = 0
              · rw [if_pos c53] at H
                have c53b0 : (t597 == 0) = true := beq_iff_eq.mpr c53
                have c53b1 : (t597 != 0) = false := bne_eq_false_iff_eq.mpr c53
                clear c53
                by_cases c54 : t605 = true
                · subst c54
                  have H1 : (if t603.toList = a1_4.toList then (if a1_0 = 4 then (changeoverlaw23_KvoneKeeps.j1 kj3 l0 t592 true a1_0 a1_1 a1_2 a1_3 a1_4 a1_5 a1_6) else (changeoverlaw23_KvoneKeeps.j1 kj3 l0 t592 false a1_0 a1_1 a1_2 a1_3 a1_4 a1_5 a1_6)) else (changeoverlaw23_KvoneKeeps.j1 kj3 l0 t592 true a1_0 a1_1 a1_2 a1_3 a1_4 a1_5 a1_6)) = some r := by rw [if_pos rfl] at H; exact H
                  clear H
                  have H := H1
                  clear H1
                  by_cases c55 : t603.toList = a1_4.toList
                  · rw [if_pos c55] at H
                    have c55b0 : (t603.toList == a1_4.toList) = true := beq_iff_eq.mpr c55
                    have c55b1 : (t603.toList != a1_4.toList) = false := bne_eq_false_iff_eq.mpr c55
                    clear c55
                    by_cases c56 : a1_0 = 4
                    · rw [if_pos c56] at H
                      have c56b0 : (a1_0 == 4) = true := beq_iff_eq.mpr c56
                      have c56b1 : (a1_0 != 4) = false := bne_eq_false_iff_eq.mpr c56
                      clear c56
                      have H' := Aside0.mk H
                      clear H
                      have hnb57 := NB587_601.out
                      have hnc57 := NB601_587.out
                      have hnb58 := NB587_606.out
                      have hnc58 := NB606_587.out
                      have hnb59 := NB587_611.out
                      have hnc59 := NB611_587.out
                      have hnb60 := NB587_616.out
                      have hnc60 := NB616_587.out
                      have hcz61_0 : w45.cell? ⟨gb587, 0, none⟩ = some (.int .i64 a1_0) := (blk_cell BK587.out 0).trans rfl
                      have hcz61_1 : w45.cell? ⟨gb587, 1, none⟩ = some (.int .i64 a1_1) := (blk_cell BK587.out 1).trans rfl
                      have hcz61_2 : w45.cell? ⟨gb587, 2, none⟩ = some (.int .i64 a1_2) := (blk_cell BK587.out 2).trans rfl
                      have hcz61_3 : w45.cell? ⟨gb587, 3, none⟩ = some (.string a1_3) := (blk_cell BK587.out 3).trans rfl
                      have hcz61_4 : w45.cell? ⟨gb587, 4, none⟩ = some (.string a1_4) := (blk_cell BK587.out 4).trans rfl
                      have hcz61_5 : w45.cell? ⟨gb587, 5, none⟩ = some (.string a1_5) := (blk_cell BK587.out 5).trans rfl
                      have hcz61_6 : w45.cell? ⟨gb587, 6, none⟩ = some (.int .i64 a1_6) := (blk_cell BK587.out 6).trans rfl
                      have hfz61_0 := blk_frozen BK587.out 0
                      have hfz61_1 := blk_frozen BK587.out 1
                      have hfz61_2 := blk_frozen BK587.out 2
                      have hfz61_3 := blk_frozen BK587.out 3
                      have hfz61_4 := blk_frozen BK587.out 4
                      have hfz61_5 := blk_frozen BK587.out 5
                      have hfz61_6 := blk_frozen BK587.out 6
                      have hnb62 := NB601_606.out
                      have hnc62 := NB606_601.out
                      have hnb63 := NB601_611.out
                      have hnc63 := NB611_601.out
                      have hnb64 := NB601_616.out
                      have hnc64 := NB616_601.out
                      have hcz65_0 : w45.cell? ⟨gb601, 0, none⟩ = some (.int .i64 t595) := (blk_cell BK601.out 0).trans rfl
                      have hcz65_1 : w45.cell? ⟨gb601, 1, none⟩ = some (.int .i64 t596) := (blk_cell BK601.out 1).trans rfl
                      have hcz65_2 : w45.cell? ⟨gb601, 2, none⟩ = some (.int .i64 t597) := (blk_cell BK601.out 2).trans rfl
                      have hcz65_3 : w45.cell? ⟨gb601, 3, none⟩ = some (.bool t598) := (blk_cell BK601.out 3).trans rfl
                      have hcz65_4 : w45.cell? ⟨gb601, 4, none⟩ = some (.string t599) := (blk_cell BK601.out 4).trans rfl
                      have hcz65_5 : w45.cell? ⟨gb601, 5, none⟩ = some (.int .i64 t600) := (blk_cell BK601.out 5).trans rfl
                      have hfz65_0 := blk_frozen BK601.out 0
                      have hfz65_1 := blk_frozen BK601.out 1
                      have hfz65_2 := blk_frozen BK601.out 2
                      have hfz65_3 := blk_frozen BK601.out 3
                      have hfz65_4 := blk_frozen BK601.out 4
                      have hfz65_5 := blk_frozen BK601.out 5
                      have hnb66 := NB606_611.out
                      have hnc66 := NB611_606.out
                      have hnb67 := NB606_616.out
                      have hnc67 := NB616_606.out
                      have hcz68_0 : w45.cell? ⟨gb606, 0, none⟩ = some (.string t602) := (blk_cell BK606.out 0).trans rfl
                      have hcz68_1 : w45.cell? ⟨gb606, 1, none⟩ = some (.string t603) := (blk_cell BK606.out 1).trans rfl
                      have hcz68_2 : w45.cell? ⟨gb606, 2, none⟩ = some (.int .i64 t604) := (blk_cell BK606.out 2).trans rfl
                      have hfz68_0 := blk_frozen BK606.out 0
                      have hfz68_1 := blk_frozen BK606.out 1
                      have hfz68_2 := blk_frozen BK606.out 2
                      go_wp2
                      go_meet
                      case rel => exact ⟨_, (true), (by first | rfl | (simp; done) | (simp [*]; done)), H', ⟨by have := HJ3.out; first | omega | exact Nat.le_refl _⟩, ⟨by (with_reducible repeat (first | apply Kd.R_alloc | apply Kd.R_drewN | apply Kd.R_drew)); exact Kd.R_mono (Kd.R_far (p := ⟨gb616, 2, none⟩) (Kd.R_far (p := ⟨gb616, 1, none⟩) (Kd.R_far (p := ⟨gb616, 0, none⟩) (Kd.R_mono HO594.out (fun k_ hk => (⟨hk, hk.2⟩ : _ ∧ k_ ≠ gb616))) (fun _ hk => hk.2) (.string t612)) (fun _ hk => hk.2) (.string t613)) (fun _ hk => hk.2) (.int .i64 t614)) (fun _ hk => ⟨hk.1.1.1.2, ⟨hk.1.1.2, hk.1.2⟩⟩)⟩, ⟨by (with_reducible repeat (first | refine blk_drewN ?_ _ | refine blk_drew ?_ | refine blk_alloc ?_ _)); refine blk_far ?_ NB587_616.out _; (with_reducible repeat (first | refine blk_drewN ?_ _ | refine blk_drew ?_ | refine blk_alloc ?_ _)); refine blk_far ?_ NB587_616.out _; (with_reducible repeat (first | refine blk_drewN ?_ _ | refine blk_drew ?_ | refine blk_alloc ?_ _)); refine blk_far ?_ NB587_616.out _; (with_reducible repeat (first | refine blk_drewN ?_ _ | refine blk_drew ?_ | refine blk_alloc ?_ _)); exact BK587.out⟩, ⟨by (with_reducible repeat (first | refine blk_drewN ?_ _ | refine blk_drew ?_ | refine blk_alloc ?_ _)); refine blk_far ?_ NB601_616.out _; (with_reducible repeat (first | refine blk_drewN ?_ _ | refine blk_drew ?_ | refine blk_alloc ?_ _)); refine blk_far ?_ NB601_616.out _; (with_reducible repeat (first | refine blk_drewN ?_ _ | refine blk_drew ?_ | refine blk_alloc ?_ _)); refine blk_far ?_ NB601_616.out _; (with_reducible repeat (first | refine blk_drewN ?_ _ | refine blk_drew ?_ | refine blk_alloc ?_ _)); exact BK601.out⟩, ⟨by (with_reducible repeat (first | refine blk_drewN ?_ _ | refine blk_drew ?_ | refine blk_alloc ?_ _)); refine blk_far ?_ NB606_616.out _; (with_reducible repeat (first | refine blk_drewN ?_ _ | refine blk_drew ?_ | refine blk_alloc ?_ _)); refine blk_far ?_ NB606_616.out _; (with_reducible repeat (first | refine blk_drewN ?_ _ | refine blk_drew ?_ | refine blk_alloc ?_ _)); refine blk_far ?_ NB606_616.out _; (with_reducible repeat (first | refine blk_drewN ?_ _ | refine blk_drew ?_ | refine blk_alloc ?_ _)); exact BK606.out⟩, ⟨by (with_reducible repeat (first | refine blk_drewN ?_ _ | refine blk_drew ?_ | refine blk_alloc ?_ _)); refine blk_far ?_ NB611_616.out _; (with_reducible repeat (first | refine blk_drewN ?_ _ | refine blk_drew ?_ | refine blk_alloc ?_ _)); refine blk_far ?_ NB611_616.out _; (with_reducible repeat (first | refine blk_drewN ?_ _ | refine blk_drew ?_ | refine blk_alloc ?_ _)); refine blk_far ?_ NB611_616.out _; (with_reducible repeat (first | refine blk_drewN ?_ _ | refine blk_drew ?_ | refine blk_alloc ?_ _)); exact BK611.out⟩, ⟨by (with_reducible repeat (first | refine blk_drewN ?_ _ | refine blk_drew ?_ | refine blk_alloc ?_ _)); refine blk_put (cs := #[.string t612, .string t613, .int .i64 0]) ?_ 2 _ rfl; (with_reducible repeat (first | refine blk_drewN ?_ _ | refine blk_drew ?_ | refine blk_alloc ?_ _)); refine blk_put (cs := #[.string t612, .string (⟨#[]⟩ : ByteArray), .int .i64 0]) ?_ 1 _ rfl; (with_reducible repeat (first | refine blk_drewN ?_ _ | refine blk_drew ?_ | refine blk_alloc ?_ _)); refine blk_put (cs := #[.string (⟨#[]⟩ : ByteArray), .string (⟨#[]⟩ : ByteArray), .int .i64 0]) ?_ 0 _ rfl; (with_reducible repeat (first | refine blk_drewN ?_ _ | refine blk_drew ?_ | refine blk_alloc ?_ _)); exact BK616.out⟩, ⟨by repeat (first | (with_reducible first | exact HB.out | apply below_alloc | apply pw_below_drewN | apply below_drew1 | refine below_set ?_ GE587.out | refine below_set ?_ GE601.out | refine below_set ?_ GE606.out | refine below_set ?_ GE611.out | refine below_set ?_ GE616.out) | exact HB.out)⟩⟩
                    · rw [if_neg c56] at H
                      have c56b0 : (a1_0 == 4) = false := beq_eq_false_iff_ne.mpr c56
                      have c56b1 : (a1_0 != 4) = true := bne_iff_ne.mpr c56
                      have H' := Aside0.mk H
                      clear H
                      have hnb69 := NB587_601.out
                      have hnc69 := NB601_587.out
                      have hnb70 := NB587_606.out
                      have hnc70 := NB606_587.out
                      have hnb71 := NB587_611.out
                      have hnc71 := NB611_587.out
                      have hnb72 := NB587_616.out
                      have hnc72 := NB616_587.out
                      have hcz73_0 : w45.cell? ⟨gb587, 0, none⟩ = some (.int .i64 a1_0) := (blk_cell BK587.out 0).trans rfl
                      have hcz73_1 : w45.cell? ⟨gb587, 1, none⟩ = some (.int .i64 a1_1) := (blk_cell BK587.out 1).trans rfl
                      have hcz73_2 : w45.cell? ⟨gb587, 2, none⟩ = some (.int .i64 a1_2) := (blk_cell BK587.out 2).trans rfl
                      have hcz73_3 : w45.cell? ⟨gb587, 3, none⟩ = some (.string a1_3) := (blk_cell BK587.out 3).trans rfl
                      have hcz73_4 : w45.cell? ⟨gb587, 4, none⟩ = some (.string a1_4) := (blk_cell BK587.out 4).trans rfl
                      have hcz73_5 : w45.cell? ⟨gb587, 5, none⟩ = some (.string a1_5) := (blk_cell BK587.out 5).trans rfl
                      have hcz73_6 : w45.cell? ⟨gb587, 6, none⟩ = some (.int .i64 a1_6) := (blk_cell BK587.out 6).trans rfl
                      have hfz73_0 := blk_frozen BK587.out 0
                      have hfz73_1 := blk_frozen BK587.out 1
                      have hfz73_2 := blk_frozen BK587.out 2
                      have hfz73_3 := blk_frozen BK587.out 3
                      have hfz73_4 := blk_frozen BK587.out 4
                      have hfz73_5 := blk_frozen BK587.out 5
                      have hfz73_6 := blk_frozen BK587.out 6
                      have hnb74 := NB601_606.out
                      have hnc74 := NB606_601.out
                      have hnb75 := NB601_611.out
                      have hnc75 := NB611_601.out
                      have hnb76 := NB601_616.out
                      have hnc76 := NB616_601.out
                      have hcz77_0 : w45.cell? ⟨gb601, 0, none⟩ = some (.int .i64 t595) := (blk_cell BK601.out 0).trans rfl
                      have hcz77_1 : w45.cell? ⟨gb601, 1, none⟩ = some (.int .i64 t596) := (blk_cell BK601.out 1).trans rfl
                      have hcz77_2 : w45.cell? ⟨gb601, 2, none⟩ = some (.int .i64 t597) := (blk_cell BK601.out 2).trans rfl
                      have hcz77_3 : w45.cell? ⟨gb601, 3, none⟩ = some (.bool t598) := (blk_cell BK601.out 3).trans rfl
                      have hcz77_4 : w45.cell? ⟨gb601, 4, none⟩ = some (.string t599) := (blk_cell BK601.out 4).trans rfl
                      have hcz77_5 : w45.cell? ⟨gb601, 5, none⟩ = some (.int .i64 t600) := (blk_cell BK601.out 5).trans rfl
                      have hfz77_0 := blk_frozen BK601.out 0
                      have hfz77_1 := blk_frozen BK601.out 1
                      have hfz77_2 := blk_frozen BK601.out 2
                      have hfz77_3 := blk_frozen BK601.out 3
                      have hfz77_4 := blk_frozen BK601.out 4
                      have hfz77_5 := blk_frozen BK601.out 5
                      have hnb78 := NB606_611.out
                      have hnc78 := NB611_606.out
                      have hnb79 := NB606_616.out
                      have hnc79 := NB616_606.out
                      have hcz80_0 : w45.cell? ⟨gb606, 0, none⟩ = some (.string t602) := (blk_cell BK606.out 0).trans rfl
                      have hcz80_1 : w45.cell? ⟨gb606, 1, none⟩ = some (.string t603) := (blk_cell BK606.out 1).trans rfl
                      have hcz80_2 : w45.cell? ⟨gb606, 2, none⟩ = some (.int .i64 t604) := (blk_cell BK606.out 2).trans rfl
                      have hfz80_0 := blk_frozen BK606.out 0
                      have hfz80_1 := blk_frozen BK606.out 1
                      have hfz80_2 := blk_frozen BK606.out 2
                      go_wp2
                      go_meet
                      case rel => exact ⟨_, (false), (by first | rfl | (simp; done) | (simp [*]; done)), H', ⟨by have := HJ3.out; first | omega | exact Nat.le_refl _⟩, ⟨by (with_reducible repeat (first | apply Kd.R_alloc | apply Kd.R_drewN | apply Kd.R_drew)); exact Kd.R_mono (Kd.R_far (p := ⟨gb616, 2, none⟩) (Kd.R_far (p := ⟨gb616, 1, none⟩) (Kd.R_far (p := ⟨gb616, 0, none⟩) (Kd.R_mono HO594.out (fun k_ hk => (⟨hk, hk.2⟩ : _ ∧ k_ ≠ gb616))) (fun _ hk => hk.2) (.string t612)) (fun _ hk => hk.2) (.string t613)) (fun _ hk => hk.2) (.int .i64 t614)) (fun _ hk => ⟨hk.1.1.1.2, ⟨hk.1.1.2, hk.1.2⟩⟩)⟩, ⟨by (with_reducible repeat (first | refine blk_drewN ?_ _ | refine blk_drew ?_ | refine blk_alloc ?_ _)); refine blk_far ?_ NB587_616.out _; (with_reducible repeat (first | refine blk_drewN ?_ _ | refine blk_drew ?_ | refine blk_alloc ?_ _)); refine blk_far ?_ NB587_616.out _; (with_reducible repeat (first | refine blk_drewN ?_ _ | refine blk_drew ?_ | refine blk_alloc ?_ _)); refine blk_far ?_ NB587_616.out _; (with_reducible repeat (first | refine blk_drewN ?_ _ | refine blk_drew ?_ | refine blk_alloc ?_ _)); exact BK587.out⟩, ⟨by (with_reducible repeat (first | refine blk_drewN ?_ _ | refine blk_drew ?_ | refine blk_alloc ?_ _)); refine blk_far ?_ NB601_616.out _; (with_reducible repeat (first | refine blk_drewN ?_ _ | refine blk_drew ?_ | refine blk_alloc ?_ _)); refine blk_far ?_ NB601_616.out _; (with_reducible repeat (first | refine blk_drewN ?_ _ | refine blk_drew ?_ | refine blk_alloc ?_ _)); refine blk_far ?_ NB601_616.out _; (with_reducible repeat (first | refine blk_drewN ?_ _ | refine blk_drew ?_ | refine blk_alloc ?_ _)); exact BK601.out⟩, ⟨by (with_reducible repeat (first | refine blk_drewN ?_ _ | refine blk_drew ?_ | refine blk_alloc ?_ _)); refine blk_far ?_ NB606_616.out _; (with_reducible repeat (first | refine blk_drewN ?_ _ | refine blk_drew ?_ | refine blk_alloc ?_ _)); refine blk_far ?_ NB606_616.out _; (with_reducible repeat (first | refine blk_drewN ?_ _ | refine blk_drew ?_ | refine blk_alloc ?_ _)); refine blk_far ?_ NB606_616.out _; (with_reducible repeat (first | refine blk_drewN ?_ _ | refine blk_drew ?_ | refine blk_alloc ?_ _)); exact BK606.out⟩, ⟨by (with_reducible repeat (first | refine blk_drewN ?_ _ | refine blk_drew ?_ | refine blk_alloc ?_ _)); refine blk_far ?_ NB611_616.out _; (with_reducible repeat (first | refine blk_drewN ?_ _ | refine blk_drew ?_ | refine blk_alloc ?_ _)); refine blk_far ?_ NB611_616.out _; (with_reducible repeat (first | refine blk_drewN ?_ _ | refine blk_drew ?_ | refine blk_alloc ?_ _)); refine blk_far ?_ NB611_616.out _; (with_reducible repeat (first | refine blk_drewN ?_ _ | refine blk_drew ?_ | refine blk_alloc ?_ _)); exact BK611.out⟩, ⟨by (with_reducible repeat (first | refine blk_drewN ?_ _ | refine blk_drew ?_ | refine blk_alloc ?_ _)); refine blk_put (cs := #[.string t612, .string t613, .int .i64 0]) ?_ 2 _ rfl; (with_reducible repeat (first | refine blk_drewN ?_ _ | refine blk_drew ?_ | refine blk_alloc ?_ _)); refine blk_put (cs := #[.string t612, .string (⟨#[]⟩ : ByteArray), .int .i64 0]) ?_ 1 _ rfl; (with_reducible repeat (first | refine blk_drewN ?_ _ | refine blk_drew ?_ | refine blk_alloc ?_ _)); refine blk_put (cs := #[.string (⟨#[]⟩ : ByteArray), .string (⟨#[]⟩ : ByteArray), .int .i64 0]) ?_ 0 _ rfl; (with_reducible repeat (first | refine blk_drewN ?_ _ | refine blk_drew ?_ | refine blk_alloc ?_ _)); exact BK616.out⟩, ⟨by repeat (first | (with_reducible first | exact HB.out | apply below_alloc | apply pw_below_drewN | apply below_drew1 | refine below_set ?_ GE587.out | refine below_set ?_ GE601.out | refine below_set ?_ GE606.out | refine below_set ?_ GE611.out | refine below_set ?_ GE616.out) | exact HB.out)⟩⟩
                  · rw [if_neg c55] at H
                    have c55b0 : (t603.toList == a1_4.toList) = false := beq_eq_false_iff_ne.mpr c55
                    have c55b1 : (t603.toList != a1_4.toList) = true := bne_iff_ne.mpr c55
                    have H' := Aside0.mk H
                    clear H
                    have hnb81 := NB587_601.out
                    have hnc81 := NB601_587.out
                    have hnb82 := NB587_606.out
                    have hnc82 := NB606_587.out
                    have hnb83 := NB587_611.out
                    have hnc83 := NB611_587.out
                    have hnb84 := NB587_616.out
                    have hnc84 := NB616_587.out
                    have hcz85_0 : w45.cell? ⟨gb587, 0, none⟩ = some (.int .i64 a1_0) := (blk_cell BK587.out 0).trans rfl
                    have hcz85_1 : w45.cell? ⟨gb587, 1, none⟩ = some (.int .i64 a1_1) := (blk_cell BK587.out 1).trans rfl
                    have hcz85_2 : w45.cell? ⟨gb587, 2, none⟩ = some (.int .i64 a1_2) := (blk_cell BK587.out 2).trans rfl
                    have hcz85_3 : w45.cell? ⟨gb587, 3, none⟩ = some (.string a1_3) := (blk_cell BK587.out 3).trans rfl
                    have hcz85_4 : w45.cell? ⟨gb587, 4, none⟩ = some (.string a1_4) := (blk_cell BK587.out 4).trans rfl
                    have hcz85_5 : w45.cell? ⟨gb587, 5, none⟩ = some (.string a1_5) := (blk_cell BK587.out 5).trans rfl
                    have hcz85_6 : w45.cell? ⟨gb587, 6, none⟩ = some (.int .i64 a1_6) := (blk_cell BK587.out 6).trans rfl
                    have hfz85_0 := blk_frozen BK587.out 0
                    have hfz85_1 := blk_frozen BK587.out 1
                    have hfz85_2 := blk_frozen BK587.out 2
                    have hfz85_3 := blk_frozen BK587.out 3
                    have hfz85_4 := blk_frozen BK587.out 4
                    have hfz85_5 := blk_frozen BK587.out 5
                    have hfz85_6 := blk_frozen BK587.out 6
                    have hnb86 := NB601_606.out
                    have hnc86 := NB606_601.out
                    have hnb87 := NB601_611.out
                    have hnc87 := NB611_601.out
                    have hnb88 := NB601_616.out
                    have hnc88 := NB616_601.out
                    have hcz89_0 : w45.cell? ⟨gb601, 0, none⟩ = some (.int .i64 t595) := (blk_cell BK601.out 0).trans rfl
                    have hcz89_1 : w45.cell? ⟨gb601, 1, none⟩ = some (.int .i64 t596) := (blk_cell BK601.out 1).trans rfl
                    have hcz89_2 : w45.cell? ⟨gb601, 2, none⟩ = some (.int .i64 t597) := (blk_cell BK601.out 2).trans rfl
                    have hcz89_3 : w45.cell? ⟨gb601, 3, none⟩ = some (.bool t598) := (blk_cell BK601.out 3).trans rfl
                    have hcz89_4 : w45.cell? ⟨gb601, 4, none⟩ = some (.string t599) := (blk_cell BK601.out 4).trans rfl
                    have hcz89_5 : w45.cell? ⟨gb601, 5, none⟩ = some (.int .i64 t600) := (blk_cell BK601.out 5).trans rfl
                    have hfz89_0 := blk_frozen BK601.out 0
                    have hfz89_1 := blk_frozen BK601.out 1
                    have hfz89_2 := blk_frozen BK601.out 2
                    have hfz89_3 := blk_frozen BK601.out 3
                    have hfz89_4 := blk_frozen BK601.out 4
                    have hfz89_5 := blk_frozen BK601.out 5
                    have hnb90 := NB606_611.out
                    have hnc90 := NB611_606.out
                    have hnb91 := NB606_616.out
                    have hnc91 := NB616_606.out
                    have hcz92_0 : w45.cell? ⟨gb606, 0, none⟩ = some (.string t602) := (blk_cell BK606.out 0).trans rfl
                    have hcz92_1 : w45.cell? ⟨gb606, 1, none⟩ = some (.string t603) := (blk_cell BK606.out 1).trans rfl
                    have hcz92_2 : w45.cell? ⟨gb606, 2, none⟩ = some (.int .i64 t604) := (blk_cell BK606.out 2).trans rfl
                    have hfz92_0 := blk_frozen BK606.out 0
                    have hfz92_1 := blk_frozen BK606.out 1
                    have hfz92_2 := blk_frozen BK606.out 2
                    go_wp2
                    go_meet
                    case rel => exact ⟨_, (true), (by first | rfl | (simp; done) | (simp [*]; done)), H', ⟨by have := HJ3.out; first | omega | exact Nat.le_refl _⟩, ⟨by (with_reducible repeat (first | apply Kd.R_alloc | apply Kd.R_drewN | apply Kd.R_drew)); exact Kd.R_mono (Kd.R_far (p := ⟨gb616, 2, none⟩) (Kd.R_far (p := ⟨gb616, 1, none⟩) (Kd.R_far (p := ⟨gb616, 0, none⟩) (Kd.R_mono HO594.out (fun k_ hk => (⟨hk, hk.2⟩ : _ ∧ k_ ≠ gb616))) (fun _ hk => hk.2) (.string t612)) (fun _ hk => hk.2) (.string t613)) (fun _ hk => hk.2) (.int .i64 t614)) (fun _ hk => ⟨hk.1.1.1.2, ⟨hk.1.1.2, hk.1.2⟩⟩)⟩, ⟨by (with_reducible repeat (first | refine blk_drewN ?_ _ | refine blk_drew ?_ | refine blk_alloc ?_ _)); refine blk_far ?_ NB587_616.out _; (with_reducible repeat (first | refine blk_drewN ?_ _ | refine blk_drew ?_ | refine blk_alloc ?_ _)); refine blk_far ?_ NB587_616.out _; (with_reducible repeat (first | refine blk_drewN ?_ _ | refine blk_drew ?_ | refine blk_alloc ?_ _)); refine blk_far ?_ NB587_616.out _; (with_reducible repeat (first | refine blk_drewN ?_ _ | refine blk_drew ?_ | refine blk_alloc ?_ _)); exact BK587.out⟩, ⟨by (with_reducible repeat (first | refine blk_drewN ?_ _ | refine blk_drew ?_ | refine blk_alloc ?_ _)); refine blk_far ?_ NB601_616.out _; (with_reducible repeat (first | refine blk_drewN ?_ _ | refine blk_drew ?_ | refine blk_alloc ?_ _)); refine blk_far ?_ NB601_616.out _; (with_reducible repeat (first | refine blk_drewN ?_ _ | refine blk_drew ?_ | refine blk_alloc ?_ _)); refine blk_far ?_ NB601_616.out _; (with_reducible repeat (first | refine blk_drewN ?_ _ | refine blk_drew ?_ | refine blk_alloc ?_ _)); exact BK601.out⟩, ⟨by (with_reducible repeat (first | refine blk_drewN ?_ _ | refine blk_drew ?_ | refine blk_alloc ?_ _)); refine blk_far ?_ NB606_616.out _; (with_reducible repeat (first | refine blk_drewN ?_ _ | refine blk_drew ?_ | refine blk_alloc ?_ _)); refine blk_far ?_ NB606_616.out _; (with_reducible repeat (first | refine blk_drewN ?_ _ | refine blk_drew ?_ | refine blk_alloc ?_ _)); refine blk_far ?_ NB606_616.out _; (with_reducible repeat (first | refine blk_drewN ?_ _ | refine blk_drew ?_ | refine blk_alloc ?_ _)); exact BK606.out⟩, ⟨by (with_reducible repeat (first | refine blk_drewN ?_ _ | refine blk_drew ?_ | refine blk_alloc ?_ _)); refine blk_far ?_ NB611_616.out _; (with_reducible repeat (first | refine blk_drewN ?_ _ | refine blk_drew ?_ | refine blk_alloc ?_ _)); refine blk_far ?_ NB611_616.out _; (with_reducible repeat (first | refine blk_drewN ?_ _ | refine blk_drew ?_ | refine blk_alloc ?_ _)); refine blk_far ?_ NB611_616.out _; (with_reducible repeat (first | refine blk_drewN ?_ _ | refine blk_drew ?_ | refine blk_alloc ?_ _)); exact BK611.out⟩, ⟨by (with_reducible repeat (first | refine blk_drewN ?_ _ | refine blk_drew ?_ | refine blk_alloc ?_ _)); refine blk_put (cs := #[.string t612, .string t613, .int .i64 0]) ?_ 2 _ rfl; (with_reducible repeat (first | refine blk_drewN ?_ _ | refine blk_drew ?_ | refine blk_alloc ?_ _)); refine blk_put (cs := #[.string t612, .string (⟨#[]⟩ : ByteArray), .int .i64 0]) ?_ 1 _ rfl; (with_reducible repeat (first | refine blk_drewN ?_ _ | refine blk_drew ?_ | refine blk_alloc ?_ _)); refine blk_put (cs := #[.string (⟨#[]⟩ : ByteArray), .string (⟨#[]⟩ : ByteArray), .int .i64 0]) ?_ 0 _ rfl; (with_reducible repeat (first | refine blk_drewN ?_ _ | refine blk_drew ?_ | refine blk_alloc ?_ _)); exact BK616.out⟩, ⟨by repeat (first | (with_reducible first | exact HB.out | apply below_alloc | apply pw_below_drewN | apply below_drew1 | refine below_set ?_ GE587.out | refine below_set ?_ GE601.out | refine below_set ?_ GE606.out | refine below_set ?_ GE611.out | refine below_set ?_ GE616.out) | exact HB.out)⟩⟩
                · replace c54 := Bool.eq_false_iff.mpr c54
                  subst c54
                  have H1 : (changeoverlaw23_KvoneKeeps.j1 kj3 l0 t592 true a1_0 a1_1 a1_2 a1_3 a1_4 a1_5 a1_6) = some r := by rw [if_neg (show ¬ (false = true) by decide)] at H; exact H
                  clear H
                  have H := H1
                  clear H1
                  have H' := Aside0.mk H
                  clear H
                  have hnb93 := NB587_601.out
                  have hnc93 := NB601_587.out
                  have hnb94 := NB587_606.out
                  have hnc94 := NB606_587.out
                  have hnb95 := NB587_611.out
                  have hnc95 := NB611_587.out
                  have hnb96 := NB587_616.out
                  have hnc96 := NB616_587.out
                  have hcz97_0 : w45.cell? ⟨gb587, 0, none⟩ = some (.int .i64 a1_0) := (blk_cell BK587.out 0).trans rfl
                  have hcz97_1 : w45.cell? ⟨gb587, 1, none⟩ = some (.int .i64 a1_1) := (blk_cell BK587.out 1).trans rfl
                  have hcz97_2 : w45.cell? ⟨gb587, 2, none⟩ = some (.int .i64 a1_2) := (blk_cell BK587.out 2).trans rfl
                  have hcz97_3 : w45.cell? ⟨gb587, 3, none⟩ = some (.string a1_3) := (blk_cell BK587.out 3).trans rfl
                  have hcz97_4 : w45.cell? ⟨gb587, 4, none⟩ = some (.string a1_4) := (blk_cell BK587.out 4).trans rfl
                  have hcz97_5 : w45.cell? ⟨gb587, 5, none⟩ = some (.string a1_5) := (blk_cell BK587.out 5).trans rfl
                  have hcz97_6 : w45.cell? ⟨gb587, 6, none⟩ = some (.int .i64 a1_6) := (blk_cell BK587.out 6).trans rfl
                  have hfz97_0 := blk_frozen BK587.out 0
                  have hfz97_1 := blk_frozen BK587.out 1
                  have hfz97_2 := blk_frozen BK587.out 2
                  have hfz97_3 := blk_frozen BK587.out 3
                  have hfz97_4 := blk_frozen BK587.out 4
                  have hfz97_5 := blk_frozen BK587.out 5
                  have hfz97_6 := blk_frozen BK587.out 6
                  have hnb98 := NB601_606.out
                  have hnc98 := NB606_601.out
                  have hnb99 := NB601_611.out
                  have hnc99 := NB611_601.out
                  have hnb100 := NB601_616.out
                  have hnc100 := NB616_601.out
                  have hcz101_0 : w45.cell? ⟨gb601, 0, none⟩ = some (.int .i64 t595) := (blk_cell BK601.out 0).trans rfl
                  have hcz101_1 : w45.cell? ⟨gb601, 1, none⟩ = some (.int .i64 t596) := (blk_cell BK601.out 1).trans rfl
                  have hcz101_2 : w45.cell? ⟨gb601, 2, none⟩ = some (.int .i64 t597) := (blk_cell BK601.out 2).trans rfl
                  have hcz101_3 : w45.cell? ⟨gb601, 3, none⟩ = some (.bool t598) := (blk_cell BK601.out 3).trans rfl
                  have hcz101_4 : w45.cell? ⟨gb601, 4, none⟩ = some (.string t599) := (blk_cell BK601.out 4).trans rfl
                  have hcz101_5 : w45.cell? ⟨gb601, 5, none⟩ = some (.int .i64 t600) := (blk_cell BK601.out 5).trans rfl
                  have hfz101_0 := blk_frozen BK601.out 0
                  have hfz101_1 := blk_frozen BK601.out 1
                  have hfz101_2 := blk_frozen BK601.out 2
                  have hfz101_3 := blk_frozen BK601.out 3
                  have hfz101_4 := blk_frozen BK601.out 4
                  have hfz101_5 := blk_frozen BK601.out 5
                  go_wp2
                  go_meet
                  case rel => exact ⟨_, (true), (by first | rfl | (simp; done) | (simp [*]; done)), H', ⟨by have := HJ3.out; first | omega | exact Nat.le_refl _⟩, ⟨by (with_reducible repeat (first | apply Kd.R_alloc | apply Kd.R_drewN | apply Kd.R_drew)); exact Kd.R_mono (Kd.R_far (p := ⟨gb616, 2, none⟩) (Kd.R_far (p := ⟨gb616, 1, none⟩) (Kd.R_far (p := ⟨gb616, 0, none⟩) (Kd.R_mono HO594.out (fun k_ hk => (⟨hk, hk.2⟩ : _ ∧ k_ ≠ gb616))) (fun _ hk => hk.2) (.string t612)) (fun _ hk => hk.2) (.string t613)) (fun _ hk => hk.2) (.int .i64 t614)) (fun _ hk => ⟨hk.1.1.1.2, ⟨hk.1.1.2, hk.1.2⟩⟩)⟩, ⟨by (with_reducible repeat (first | refine blk_drewN ?_ _ | refine blk_drew ?_ | refine blk_alloc ?_ _)); refine blk_far ?_ NB587_616.out _; (with_reducible repeat (first | refine blk_drewN ?_ _ | refine blk_drew ?_ | refine blk_alloc ?_ _)); refine blk_far ?_ NB587_616.out _; (with_reducible repeat (first | refine blk_drewN ?_ _ | refine blk_drew ?_ | refine blk_alloc ?_ _)); refine blk_far ?_ NB587_616.out _; (with_reducible repeat (first | refine blk_drewN ?_ _ | refine blk_drew ?_ | refine blk_alloc ?_ _)); exact BK587.out⟩, ⟨by (with_reducible repeat (first | refine blk_drewN ?_ _ | refine blk_drew ?_ | refine blk_alloc ?_ _)); refine blk_far ?_ NB601_616.out _; (with_reducible repeat (first | refine blk_drewN ?_ _ | refine blk_drew ?_ | refine blk_alloc ?_ _)); refine blk_far ?_ NB601_616.out _; (with_reducible repeat (first | refine blk_drewN ?_ _ | refine blk_drew ?_ | refine blk_alloc ?_ _)); refine blk_far ?_ NB601_616.out _; (with_reducible repeat (first | refine blk_drewN ?_ _ | refine blk_drew ?_ | refine blk_alloc ?_ _)); exact BK601.out⟩, ⟨by (with_reducible repeat (first | refine blk_drewN ?_ _ | refine blk_drew ?_ | refine blk_alloc ?_ _)); refine blk_far ?_ NB606_616.out _; (with_reducible repeat (first | refine blk_drewN ?_ _ | refine blk_drew ?_ | refine blk_alloc ?_ _)); refine blk_far ?_ NB606_616.out _; (with_reducible repeat (first | refine blk_drewN ?_ _ | refine blk_drew ?_ | refine blk_alloc ?_ _)); refine blk_far ?_ NB606_616.out _; (with_reducible repeat (first | refine blk_drewN ?_ _ | refine blk_drew ?_ | refine blk_alloc ?_ _)); exact BK606.out⟩, ⟨by (with_reducible repeat (first | refine blk_drewN ?_ _ | refine blk_drew ?_ | refine blk_alloc ?_ _)); refine blk_far ?_ NB611_616.out _; (with_reducible repeat (first | refine blk_drewN ?_ _ | refine blk_drew ?_ | refine blk_alloc ?_ _)); refine blk_far ?_ NB611_616.out _; (with_reducible repeat (first | refine blk_drewN ?_ _ | refine blk_drew ?_ | refine blk_alloc ?_ _)); refine blk_far ?_ NB611_616.out _; (with_reducible repeat (first | refine blk_drewN ?_ _ | refine blk_drew ?_ | refine blk_alloc ?_ _)); exact BK611.out⟩, ⟨by (with_reducible repeat (first | refine blk_drewN ?_ _ | refine blk_drew ?_ | refine blk_alloc ?_ _)); refine blk_put (cs := #[.string t612, .string t613, .int .i64 0]) ?_ 2 _ rfl; (with_reducible repeat (first | refine blk_drewN ?_ _ | refine blk_drew ?_ | refine blk_alloc ?_ _)); refine blk_put (cs := #[.string t612, .string (⟨#[]⟩ : ByteArray), .int .i64 0]) ?_ 1 _ rfl; (with_reducible repeat (first | refine blk_drewN ?_ _ | refine blk_drew ?_ | refine blk_alloc ?_ _)); refine blk_put (cs := #[.string (⟨#[]⟩ : ByteArray), .string (⟨#[]⟩ : ByteArray), .int .i64 0]) ?_ 0 _ rfl; (with_reducible repeat (first | refine blk_drewN ?_ _ | refine blk_drew ?_ | refine blk_alloc ?_ _)); exact BK616.out⟩, ⟨by repeat (first | (with_reducible first | exact HB.out | apply below_alloc | apply pw_below_drewN | apply below_drew1 | refine below_set ?_ GE587.out | refine below_set ?_ GE601.out | refine below_set ?_ GE606.out | refine below_set ?_ GE611.out | refine below_set ?_ GE616.out) | exact HB.out)⟩⟩
              · rw [if_neg c53] at H
                have c53b0 : (t597 == 0) = false := beq_eq_false_iff_ne.mpr c53
                have c53b1 : (t597 != 0) = true := bne_iff_ne.mpr c53
                by_cases c102 : a1_0 = 4
                · rw [if_pos c102] at H
                  have c102b0 : (a1_0 == 4) = true := beq_iff_eq.mpr c102
                  have c102b1 : (a1_0 != 4) = false := bne_eq_false_iff_eq.mpr c102
                  clear c102
                  have H' := Aside0.mk H
                  clear H
                  have hnb103 := NB587_601.out
                  have hnc103 := NB601_587.out
                  have hnb104 := NB587_606.out
                  have hnc104 := NB606_587.out
                  have hnb105 := NB587_611.out
                  have hnc105 := NB611_587.out
                  have hnb106 := NB587_616.out
                  have hnc106 := NB616_587.out
                  have hcz107_0 : w45.cell? ⟨gb587, 0, none⟩ = some (.int .i64 a1_0) := (blk_cell BK587.out 0).trans rfl
                  have hcz107_1 : w45.cell? ⟨gb587, 1, none⟩ = some (.int .i64 a1_1) := (blk_cell BK587.out 1).trans rfl
                  have hcz107_2 : w45.cell? ⟨gb587, 2, none⟩ = some (.int .i64 a1_2) := (blk_cell BK587.out 2).trans rfl
                  have hcz107_3 : w45.cell? ⟨gb587, 3, none⟩ = some (.string a1_3) := (blk_cell BK587.out 3).trans rfl
                  have hcz107_4 : w45.cell? ⟨gb587, 4, none⟩ = some (.string a1_4) := (blk_cell BK587.out 4).trans rfl
                  have hcz107_5 : w45.cell? ⟨gb587, 5, none⟩ = some (.string a1_5) := (blk_cell BK587.out 5).trans rfl
                  have hcz107_6 : w45.cell? ⟨gb587, 6, none⟩ = some (.int .i64 a1_6) := (blk_cell BK587.out 6).trans rfl
                  have hfz107_0 := blk_frozen BK587.out 0
                  have hfz107_1 := blk_frozen BK587.out 1
                  have hfz107_2 := blk_frozen BK587.out 2
                  have hfz107_3 := blk_frozen BK587.out 3
                  have hfz107_4 := blk_frozen BK587.out 4
                  have hfz107_5 := blk_frozen BK587.out 5
                  have hfz107_6 := blk_frozen BK587.out 6
                  have hnb108 := NB601_606.out
                  have hnc108 := NB606_601.out
                  have hnb109 := NB601_611.out
                  have hnc109 := NB611_601.out
                  have hnb110 := NB601_616.out
                  have hnc110 := NB616_601.out
                  have hcz111_0 : w45.cell? ⟨gb601, 0, none⟩ = some (.int .i64 t595) := (blk_cell BK601.out 0).trans rfl
                  have hcz111_1 : w45.cell? ⟨gb601, 1, none⟩ = some (.int .i64 t596) := (blk_cell BK601.out 1).trans rfl
                  have hcz111_2 : w45.cell? ⟨gb601, 2, none⟩ = some (.int .i64 t597) := (blk_cell BK601.out 2).trans rfl
                  have hcz111_3 : w45.cell? ⟨gb601, 3, none⟩ = some (.bool t598) := (blk_cell BK601.out 3).trans rfl
                  have hcz111_4 : w45.cell? ⟨gb601, 4, none⟩ = some (.string t599) := (blk_cell BK601.out 4).trans rfl
                  have hcz111_5 : w45.cell? ⟨gb601, 5, none⟩ = some (.int .i64 t600) := (blk_cell BK601.out 5).trans rfl
                  have hfz111_0 := blk_frozen BK601.out 0
                  have hfz111_1 := blk_frozen BK601.out 1
                  have hfz111_2 := blk_frozen BK601.out 2
                  have hfz111_3 := blk_frozen BK601.out 3
                  have hfz111_4 := blk_frozen BK601.out 4
                  have hfz111_5 := blk_frozen BK601.out 5
                  go_wp2
                  go_meet
                  case rel => exact ⟨_, (t605), (by first | rfl | (simp; done) | (simp [*]; done)), H', ⟨by have := HJ3.out; first | omega | exact Nat.le_refl _⟩, ⟨by (with_reducible repeat (first | apply Kd.R_alloc | apply Kd.R_drewN | apply Kd.R_drew)); exact Kd.R_mono (Kd.R_far (p := ⟨gb616, 2, none⟩) (Kd.R_far (p := ⟨gb616, 1, none⟩) (Kd.R_far (p := ⟨gb616, 0, none⟩) (Kd.R_mono HO594.out (fun k_ hk => (⟨hk, hk.2⟩ : _ ∧ k_ ≠ gb616))) (fun _ hk => hk.2) (.string t612)) (fun _ hk => hk.2) (.string t613)) (fun _ hk => hk.2) (.int .i64 t614)) (fun _ hk => ⟨hk.1.1.1.2, ⟨hk.1.1.2, hk.1.2⟩⟩)⟩, ⟨by (with_reducible repeat (first | refine blk_drewN ?_ _ | refine blk_drew ?_ | refine blk_alloc ?_ _)); refine blk_far ?_ NB587_616.out _; (with_reducible repeat (first | refine blk_drewN ?_ _ | refine blk_drew ?_ | refine blk_alloc ?_ _)); refine blk_far ?_ NB587_616.out _; (with_reducible repeat (first | refine blk_drewN ?_ _ | refine blk_drew ?_ | refine blk_alloc ?_ _)); refine blk_far ?_ NB587_616.out _; (with_reducible repeat (first | refine blk_drewN ?_ _ | refine blk_drew ?_ | refine blk_alloc ?_ _)); exact BK587.out⟩, ⟨by (with_reducible repeat (first | refine blk_drewN ?_ _ | refine blk_drew ?_ | refine blk_alloc ?_ _)); refine blk_far ?_ NB601_616.out _; (with_reducible repeat (first | refine blk_drewN ?_ _ | refine blk_drew ?_ | refine blk_alloc ?_ _)); refine blk_far ?_ NB601_616.out _; (with_reducible repeat (first | refine blk_drewN ?_ _ | refine blk_drew ?_ | refine blk_alloc ?_ _)); refine blk_far ?_ NB601_616.out _; (with_reducible repeat (first | refine blk_drewN ?_ _ | refine blk_drew ?_ | refine blk_alloc ?_ _)); exact BK601.out⟩, ⟨by (with_reducible repeat (first | refine blk_drewN ?_ _ | refine blk_drew ?_ | refine blk_alloc ?_ _)); refine blk_far ?_ NB606_616.out _; (with_reducible repeat (first | refine blk_drewN ?_ _ | refine blk_drew ?_ | refine blk_alloc ?_ _)); refine blk_far ?_ NB606_616.out _; (with_reducible repeat (first | refine blk_drewN ?_ _ | refine blk_drew ?_ | refine blk_alloc ?_ _)); refine blk_far ?_ NB606_616.out _; (with_reducible repeat (first | refine blk_drewN ?_ _ | refine blk_drew ?_ | refine blk_alloc ?_ _)); exact BK606.out⟩, ⟨by (with_reducible repeat (first | refine blk_drewN ?_ _ | refine blk_drew ?_ | refine blk_alloc ?_ _)); refine blk_far ?_ NB611_616.out _; (with_reducible repeat (first | refine blk_drewN ?_ _ | refine blk_drew ?_ | refine blk_alloc ?_ _)); refine blk_far ?_ NB611_616.out _; (with_reducible repeat (first | refine blk_drewN ?_ _ | refine blk_drew ?_ | refine blk_alloc ?_ _)); refine blk_far ?_ NB611_616.out _; (with_reducible repeat (first | refine blk_drewN ?_ _ | refine blk_drew ?_ | refine blk_alloc ?_ _)); exact BK611.out⟩, ⟨by (with_reducible repeat (first | refine blk_drewN ?_ _ | refine blk_drew ?_ | refine blk_alloc ?_ _)); refine blk_put (cs := #[.string t612, .string t613, .int .i64 0]) ?_ 2 _ rfl; (with_reducible repeat (first | refine blk_drewN ?_ _ | refine blk_drew ?_ | refine blk_alloc ?_ _)); refine blk_put (cs := #[.string t612, .string (⟨#[]⟩ : ByteArray), .int .i64 0]) ?_ 1 _ rfl; (with_reducible repeat (first | refine blk_drewN ?_ _ | refine blk_drew ?_ | refine blk_alloc ?_ _)); refine blk_put (cs := #[.string (⟨#[]⟩ : ByteArray), .string (⟨#[]⟩ : ByteArray), .int .i64 0]) ?_ 0 _ rfl; (with_reducible repeat (first | refine blk_drewN ?_ _ | refine blk_drew ?_ | refine blk_alloc ?_ _)); exact BK616.out⟩, ⟨by repeat (first | (with_reducible first | exact HB.out | apply below_alloc | apply pw_below_drewN | apply below_drew1 | refine below_set ?_ GE587.out | refine below_set ?_ GE601.out | refine below_set ?_ GE606.out | refine below_set ?_ GE611.out | refine below_set ?_ GE616.out) | exact HB.out)⟩⟩
                · rw [if_neg c102] at H
                  have c102b0 : (a1_0 == 4) = false := beq_eq_false_iff_ne.mpr c102
                  have c102b1 : (a1_0 != 4) = true := bne_iff_ne.mpr c102
                  have H' := Aside0.mk H
                  clear H
                  have hnb112 := NB587_601.out
                  have hnc112 := NB601_587.out
                  have hnb113 := NB587_606.out
                  have hnc113 := NB606_587.out
                  have hnb114 := NB587_611.out
                  have hnc114 := NB611_587.out
                  have hnb115 := NB587_616.out
                  have hnc115 := NB616_587.out
                  have hcz116_0 : w45.cell? ⟨gb587, 0, none⟩ = some (.int .i64 a1_0) := (blk_cell BK587.out 0).trans rfl
                  have hcz116_1 : w45.cell? ⟨gb587, 1, none⟩ = some (.int .i64 a1_1) := (blk_cell BK587.out 1).trans rfl
                  have hcz116_2 : w45.cell? ⟨gb587, 2, none⟩ = some (.int .i64 a1_2) := (blk_cell BK587.out 2).trans rfl
                  have hcz116_3 : w45.cell? ⟨gb587, 3, none⟩ = some (.string a1_3) := (blk_cell BK587.out 3).trans rfl
                  have hcz116_4 : w45.cell? ⟨gb587, 4, none⟩ = some (.string a1_4) := (blk_cell BK587.out 4).trans rfl
                  have hcz116_5 : w45.cell? ⟨gb587, 5, none⟩ = some (.string a1_5) := (blk_cell BK587.out 5).trans rfl
                  have hcz116_6 : w45.cell? ⟨gb587, 6, none⟩ = some (.int .i64 a1_6) := (blk_cell BK587.out 6).trans rfl
                  have hfz116_0 := blk_frozen BK587.out 0
                  have hfz116_1 := blk_frozen BK587.out 1
                  have hfz116_2 := blk_frozen BK587.out 2
                  have hfz116_3 := blk_frozen BK587.out 3
                  have hfz116_4 := blk_frozen BK587.out 4
                  have hfz116_5 := blk_frozen BK587.out 5
                  have hfz116_6 := blk_frozen BK587.out 6
                  have hnb117 := NB601_606.out
                  have hnc117 := NB606_601.out
                  have hnb118 := NB601_611.out
                  have hnc118 := NB611_601.out
                  have hnb119 := NB601_616.out
                  have hnc119 := NB616_601.out
                  have hcz120_0 : w45.cell? ⟨gb601, 0, none⟩ = some (.int .i64 t595) := (blk_cell BK601.out 0).trans rfl
                  have hcz120_1 : w45.cell? ⟨gb601, 1, none⟩ = some (.int .i64 t596) := (blk_cell BK601.out 1).trans rfl
                  have hcz120_2 : w45.cell? ⟨gb601, 2, none⟩ = some (.int .i64 t597) := (blk_cell BK601.out 2).trans rfl
                  have hcz120_3 : w45.cell? ⟨gb601, 3, none⟩ = some (.bool t598) := (blk_cell BK601.out 3).trans rfl
                  have hcz120_4 : w45.cell? ⟨gb601, 4, none⟩ = some (.string t599) := (blk_cell BK601.out 4).trans rfl
                  have hcz120_5 : w45.cell? ⟨gb601, 5, none⟩ = some (.int .i64 t600) := (blk_cell BK601.out 5).trans rfl
                  have hfz120_0 := blk_frozen BK601.out 0
                  have hfz120_1 := blk_frozen BK601.out 1
                  have hfz120_2 := blk_frozen BK601.out 2
                  have hfz120_3 := blk_frozen BK601.out 3
                  have hfz120_4 := blk_frozen BK601.out 4
                  have hfz120_5 := blk_frozen BK601.out 5
                  go_wp2
                  go_meet
                  case rel => exact ⟨_, (false), (by first | rfl | (simp; done) | (simp [*]; done)), H', ⟨by have := HJ3.out; first | omega | exact Nat.le_refl _⟩, ⟨by (with_reducible repeat (first | apply Kd.R_alloc | apply Kd.R_drewN | apply Kd.R_drew)); exact Kd.R_mono (Kd.R_far (p := ⟨gb616, 2, none⟩) (Kd.R_far (p := ⟨gb616, 1, none⟩) (Kd.R_far (p := ⟨gb616, 0, none⟩) (Kd.R_mono HO594.out (fun k_ hk => (⟨hk, hk.2⟩ : _ ∧ k_ ≠ gb616))) (fun _ hk => hk.2) (.string t612)) (fun _ hk => hk.2) (.string t613)) (fun _ hk => hk.2) (.int .i64 t614)) (fun _ hk => ⟨hk.1.1.1.2, ⟨hk.1.1.2, hk.1.2⟩⟩)⟩, ⟨by (with_reducible repeat (first | refine blk_drewN ?_ _ | refine blk_drew ?_ | refine blk_alloc ?_ _)); refine blk_far ?_ NB587_616.out _; (with_reducible repeat (first | refine blk_drewN ?_ _ | refine blk_drew ?_ | refine blk_alloc ?_ _)); refine blk_far ?_ NB587_616.out _; (with_reducible repeat (first | refine blk_drewN ?_ _ | refine blk_drew ?_ | refine blk_alloc ?_ _)); refine blk_far ?_ NB587_616.out _; (with_reducible repeat (first | refine blk_drewN ?_ _ | refine blk_drew ?_ | refine blk_alloc ?_ _)); exact BK587.out⟩, ⟨by (with_reducible repeat (first | refine blk_drewN ?_ _ | refine blk_drew ?_ | refine blk_alloc ?_ _)); refine blk_far ?_ NB601_616.out _; (with_reducible repeat (first | refine blk_drewN ?_ _ | refine blk_drew ?_ | refine blk_alloc ?_ _)); refine blk_far ?_ NB601_616.out _; (with_reducible repeat (first | refine blk_drewN ?_ _ | refine blk_drew ?_ | refine blk_alloc ?_ _)); refine blk_far ?_ NB601_616.out _; (with_reducible repeat (first | refine blk_drewN ?_ _ | refine blk_drew ?_ | refine blk_alloc ?_ _)); exact BK601.out⟩, ⟨by (with_reducible repeat (first | refine blk_drewN ?_ _ | refine blk_drew ?_ | refine blk_alloc ?_ _)); refine blk_far ?_ NB606_616.out _; (with_reducible repeat (first | refine blk_drewN ?_ _ | refine blk_drew ?_ | refine blk_alloc ?_ _)); refine blk_far ?_ NB606_616.out _; (with_reducible repeat (first | refine blk_drewN ?_ _ | refine blk_drew ?_ | refine blk_alloc ?_ _)); refine blk_far ?_ NB606_616.out _; (with_reducible repeat (first | refine blk_drewN ?_ _ | refine blk_drew ?_ | refine blk_alloc ?_ _)); exact BK606.out⟩, ⟨by (with_reducible repeat (first | refine blk_drewN ?_ _ | refine blk_drew ?_ | refine blk_alloc ?_ _)); refine blk_far ?_ NB611_616.out _; (with_reducible repeat (first | refine blk_drewN ?_ _ | refine blk_drew ?_ | refine blk_alloc ?_ _)); refine blk_far ?_ NB611_616.out _; (with_reducible repeat (first | refine blk_drewN ?_ _ | refine blk_drew ?_ | refine blk_alloc ?_ _)); refine blk_far ?_ NB611_616.out _; (with_reducible repeat (first | refine blk_drewN ?_ _ | refine blk_drew ?_ | refine blk_alloc ?_ _)); exact BK611.out⟩, ⟨by (with_reducible repeat (first | refine blk_drewN ?_ _ | refine blk_drew ?_ | refine blk_alloc ?_ _)); refine blk_put (cs := #[.string t612, .string t613, .int .i64 0]) ?_ 2 _ rfl; (with_reducible repeat (first | refine blk_drewN ?_ _ | refine blk_drew ?_ | refine blk_alloc ?_ _)); refine blk_put (cs := #[.string t612, .string (⟨#[]⟩ : ByteArray), .int .i64 0]) ?_ 1 _ rfl; (with_reducible repeat (first | refine blk_drewN ?_ _ | refine blk_drew ?_ | refine blk_alloc ?_ _)); refine blk_put (cs := #[.string (⟨#[]⟩ : ByteArray), .string (⟨#[]⟩ : ByteArray), .int .i64 0]) ?_ 0 _ rfl; (with_reducible repeat (first | refine blk_drewN ?_ _ | refine blk_drew ?_ | refine blk_alloc ?_ _)); exact BK616.out⟩, ⟨by repeat (first | (with_reducible first | exact HB.out | apply below_alloc | apply pw_below_drewN | apply below_drew1 | refine below_set ?_ GE587.out | refine below_set ?_ GE601.out | refine below_set ?_ GE606.out | refine below_set ?_ GE611.out | refine below_set ?_ GE616.out) | exact HB.out)⟩⟩
            · rw [if_neg c52] at H
              have c52b0 : (a1_0 == 2) = false := beq_eq_false_iff_ne.mpr c52
              have c52b1 : (a1_0 != 2) = true := bne_iff_ne.mpr c52
              by_cases c121 : a1_0 = 4
              · rw [if_pos c121] at H
                have c121b0 : (a1_0 == 4) = true := beq_iff_eq.mpr c121
                have c121b1 : (a1_0 != 4) = false := bne_eq_false_iff_eq.mpr c121
                clear c121
                have H' := Aside0.mk H
                clear H
                have hnb122 := NB587_601.out
                have hnc122 := NB601_587.out
                have hnb123 := NB587_606.out
                have hnc123 := NB606_587.out
                have hnb124 := NB587_611.out
                have hnc124 := NB611_587.out
                have hnb125 := NB587_616.out
                have hnc125 := NB616_587.out
                have hcz126_0 : w45.cell? ⟨gb587, 0, none⟩ = some (.int .i64 a1_0) := (blk_cell BK587.out 0).trans rfl
                have hcz126_1 : w45.cell? ⟨gb587, 1, none⟩ = some (.int .i64 a1_1) := (blk_cell BK587.out 1).trans rfl
                have hcz126_2 : w45.cell? ⟨gb587, 2, none⟩ = some (.int .i64 a1_2) := (blk_cell BK587.out 2).trans rfl
                have hcz126_3 : w45.cell? ⟨gb587, 3, none⟩ = some (.string a1_3) := (blk_cell BK587.out 3).trans rfl
                have hcz126_4 : w45.cell? ⟨gb587, 4, none⟩ = some (.string a1_4) := (blk_cell BK587.out 4).trans rfl
                have hcz126_5 : w45.cell? ⟨gb587, 5, none⟩ = some (.string a1_5) := (blk_cell BK587.out 5).trans rfl
                have hcz126_6 : w45.cell? ⟨gb587, 6, none⟩ = some (.int .i64 a1_6) := (blk_cell BK587.out 6).trans rfl
                have hfz126_0 := blk_frozen BK587.out 0
                have hfz126_1 := blk_frozen BK587.out 1
                have hfz126_2 := blk_frozen BK587.out 2
                have hfz126_3 := blk_frozen BK587.out 3
                have hfz126_4 := blk_frozen BK587.out 4
                have hfz126_5 := blk_frozen BK587.out 5
                have hfz126_6 := blk_frozen BK587.out 6
                go_wp2
                go_meet
                case rel => exact ⟨_, (t605), (by first | rfl | (simp; done) | (simp [*]; done)), H', ⟨by have := HJ3.out; first | omega | exact Nat.le_refl _⟩, ⟨by (with_reducible repeat (first | apply Kd.R_alloc | apply Kd.R_drewN | apply Kd.R_drew)); exact Kd.R_mono (Kd.R_far (p := ⟨gb616, 2, none⟩) (Kd.R_far (p := ⟨gb616, 1, none⟩) (Kd.R_far (p := ⟨gb616, 0, none⟩) (Kd.R_mono HO594.out (fun k_ hk => (⟨hk, hk.2⟩ : _ ∧ k_ ≠ gb616))) (fun _ hk => hk.2) (.string t612)) (fun _ hk => hk.2) (.string t613)) (fun _ hk => hk.2) (.int .i64 t614)) (fun _ hk => ⟨hk.1.1.1.2, ⟨hk.1.1.2, hk.1.2⟩⟩)⟩, ⟨by (with_reducible repeat (first | refine blk_drewN ?_ _ | refine blk_drew ?_ | refine blk_alloc ?_ _)); refine blk_far ?_ NB587_616.out _; (with_reducible repeat (first | refine blk_drewN ?_ _ | refine blk_drew ?_ | refine blk_alloc ?_ _)); refine blk_far ?_ NB587_616.out _; (with_reducible repeat (first | refine blk_drewN ?_ _ | refine blk_drew ?_ | refine blk_alloc ?_ _)); refine blk_far ?_ NB587_616.out _; (with_reducible repeat (first | refine blk_drewN ?_ _ | refine blk_drew ?_ | refine blk_alloc ?_ _)); exact BK587.out⟩, ⟨by (with_reducible repeat (first | refine blk_drewN ?_ _ | refine blk_drew ?_ | refine blk_alloc ?_ _)); refine blk_far ?_ NB601_616.out _; (with_reducible repeat (first | refine blk_drewN ?_ _ | refine blk_drew ?_ | refine blk_alloc ?_ _)); refine blk_far ?_ NB601_616.out _; (with_reducible repeat (first | refine blk_drewN ?_ _ | refine blk_drew ?_ | refine blk_alloc ?_ _)); refine blk_far ?_ NB601_616.out _; (with_reducible repeat (first | refine blk_drewN ?_ _ | refine blk_drew ?_ | refine blk_alloc ?_ _)); exact BK601.out⟩, ⟨by (with_reducible repeat (first | refine blk_drewN ?_ _ | refine blk_drew ?_ | refine blk_alloc ?_ _)); refine blk_far ?_ NB606_616.out _; (with_reducible repeat (first | refine blk_drewN ?_ _ | refine blk_drew ?_ | refine blk_alloc ?_ _)); refine blk_far ?_ NB606_616.out _; (with_reducible repeat (first | refine blk_drewN ?_ _ | refine blk_drew ?_ | refine blk_alloc ?_ _)); refine blk_far ?_ NB606_616.out _; (with_reducible repeat (first | refine blk_drewN ?_ _ | refine blk_drew ?_ | refine blk_alloc ?_ _)); exact BK606.out⟩, ⟨by (with_reducible repeat (first | refine blk_drewN ?_ _ | refine blk_drew ?_ | refine blk_alloc ?_ _)); refine blk_far ?_ NB611_616.out _; (with_reducible repeat (first | refine blk_drewN ?_ _ | refine blk_drew ?_ | refine blk_alloc ?_ _)); refine blk_far ?_ NB611_616.out _; (with_reducible repeat (first | refine blk_drewN ?_ _ | refine blk_drew ?_ | refine blk_alloc ?_ _)); refine blk_far ?_ NB611_616.out _; (with_reducible repeat (first | refine blk_drewN ?_ _ | refine blk_drew ?_ | refine blk_alloc ?_ _)); exact BK611.out⟩, ⟨by (with_reducible repeat (first | refine blk_drewN ?_ _ | refine blk_drew ?_ | refine blk_alloc ?_ _)); refine blk_put (cs := #[.string t612, .string t613, .int .i64 0]) ?_ 2 _ rfl; (with_reducible repeat (first | refine blk_drewN ?_ _ | refine blk_drew ?_ | refine blk_alloc ?_ _)); refine blk_put (cs := #[.string t612, .string (⟨#[]⟩ : ByteArray), .int .i64 0]) ?_ 1 _ rfl; (with_reducible repeat (first | refine blk_drewN ?_ _ | refine blk_drew ?_ | refine blk_alloc ?_ _)); refine blk_put (cs := #[.string (⟨#[]⟩ : ByteArray), .string (⟨#[]⟩ : ByteArray), .int .i64 0]) ?_ 0 _ rfl; (with_reducible repeat (first | refine blk_drewN ?_ _ | refine blk_drew ?_ | refine blk_alloc ?_ _)); exact BK616.out⟩, ⟨by repeat (first | (with_reducible first | exact HB.out | apply below_alloc | apply pw_below_drewN | apply below_drew1 | refine below_set ?_ GE587.out | refine below_set ?_ GE601.out | refine below_set ?_ GE606.out | refine below_set ?_ GE611.out | refine below_set ?_ GE616.out) | exact HB.out)⟩⟩
              · rw [if_neg c121] at H
                have c121b0 : (a1_0 == 4) = false := beq_eq_false_iff_ne.mpr c121
                have c121b1 : (a1_0 != 4) = true := bne_iff_ne.mpr c121
                have H' := Aside0.mk H
                clear H
                have hnb127 := NB587_601.out
                have hnc127 := NB601_587.out
                have hnb128 := NB587_606.out
                have hnc128 := NB606_587.out
                have hnb129 := NB587_611.out
                have hnc129 := NB611_587.out
                have hnb130 := NB587_616.out
                have hnc130 := NB616_587.out
                have hcz131_0 : w45.cell? ⟨gb587, 0, none⟩ = some (.int .i64 a1_0) := (blk_cell BK587.out 0).trans rfl
                have hcz131_1 : w45.cell? ⟨gb587, 1, none⟩ = some (.int .i64 a1_1) := (blk_cell BK587.out 1).trans rfl
                have hcz131_2 : w45.cell? ⟨gb587, 2, none⟩ = some (.int .i64 a1_2) := (blk_cell BK587.out 2).trans rfl
                have hcz131_3 : w45.cell? ⟨gb587, 3, none⟩ = some (.string a1_3) := (blk_cell BK587.out 3).trans rfl
                have hcz131_4 : w45.cell? ⟨gb587, 4, none⟩ = some (.string a1_4) := (blk_cell BK587.out 4).trans rfl
                have hcz131_5 : w45.cell? ⟨gb587, 5, none⟩ = some (.string a1_5) := (blk_cell BK587.out 5).trans rfl
                have hcz131_6 : w45.cell? ⟨gb587, 6, none⟩ = some (.int .i64 a1_6) := (blk_cell BK587.out 6).trans rfl
                have hfz131_0 := blk_frozen BK587.out 0
                have hfz131_1 := blk_frozen BK587.out 1
                have hfz131_2 := blk_frozen BK587.out 2
                have hfz131_3 := blk_frozen BK587.out 3
                have hfz131_4 := blk_frozen BK587.out 4
                have hfz131_5 := blk_frozen BK587.out 5
                have hfz131_6 := blk_frozen BK587.out 6
                go_wp2
                go_meet
                case rel => exact ⟨_, (false), (by first | rfl | (simp; done) | (simp [*]; done)), H', ⟨by have := HJ3.out; first | omega | exact Nat.le_refl _⟩, ⟨by (with_reducible repeat (first | apply Kd.R_alloc | apply Kd.R_drewN | apply Kd.R_drew)); exact Kd.R_mono (Kd.R_far (p := ⟨gb616, 2, none⟩) (Kd.R_far (p := ⟨gb616, 1, none⟩) (Kd.R_far (p := ⟨gb616, 0, none⟩) (Kd.R_mono HO594.out (fun k_ hk => (⟨hk, hk.2⟩ : _ ∧ k_ ≠ gb616))) (fun _ hk => hk.2) (.string t612)) (fun _ hk => hk.2) (.string t613)) (fun _ hk => hk.2) (.int .i64 t614)) (fun _ hk => ⟨hk.1.1.1.2, ⟨hk.1.1.2, hk.1.2⟩⟩)⟩, ⟨by (with_reducible repeat (first | refine blk_drewN ?_ _ | refine blk_drew ?_ | refine blk_alloc ?_ _)); refine blk_far ?_ NB587_616.out _; (with_reducible repeat (first | refine blk_drewN ?_ _ | refine blk_drew ?_ | refine blk_alloc ?_ _)); refine blk_far ?_ NB587_616.out _; (with_reducible repeat (first | refine blk_drewN ?_ _ | refine blk_drew ?_ | refine blk_alloc ?_ _)); refine blk_far ?_ NB587_616.out _; (with_reducible repeat (first | refine blk_drewN ?_ _ | refine blk_drew ?_ | refine blk_alloc ?_ _)); exact BK587.out⟩, ⟨by (with_reducible repeat (first | refine blk_drewN ?_ _ | refine blk_drew ?_ | refine blk_alloc ?_ _)); refine blk_far ?_ NB601_616.out _; (with_reducible repeat (first | refine blk_drewN ?_ _ | refine blk_drew ?_ | refine blk_alloc ?_ _)); refine blk_far ?_ NB601_616.out _; (with_reducible repeat (first | refine blk_drewN ?_ _ | refine blk_drew ?_ | refine blk_alloc ?_ _)); refine blk_far ?_ NB601_616.out _; (with_reducible repeat (first | refine blk_drewN ?_ _ | refine blk_drew ?_ | refine blk_alloc ?_ _)); exact BK601.out⟩, ⟨by (with_reducible repeat (first | refine blk_drewN ?_ _ | refine blk_drew ?_ | refine blk_alloc ?_ _)); refine blk_far ?_ NB606_616.out _; (with_reducible repeat (first | refine blk_drewN ?_ _ | refine blk_drew ?_ | refine blk_alloc ?_ _)); refine blk_far ?_ NB606_616.out _; (with_reducible repeat (first | refine blk_drewN ?_ _ | refine blk_drew ?_ | refine blk_alloc ?_ _)); refine blk_far ?_ NB606_616.out _; (with_reducible repeat (first | refine blk_drewN ?_ _ | refine blk_drew ?_ | refine blk_alloc ?_ _)); exact BK606.out⟩, ⟨by (with_reducible repeat (first | refine blk_drewN ?_ _ | refine blk_drew ?_ | refine blk_alloc ?_ _)); refine blk_far ?_ NB611_616.out _; (with_reducible repeat (first | refine blk_drewN ?_ _ | refine blk_drew ?_ | refine blk_alloc ?_ _)); refine blk_far ?_ NB611_616.out _; (with_reducible repeat (first | refine blk_drewN ?_ _ | refine blk_drew ?_ | refine blk_alloc ?_ _)); refine blk_far ?_ NB611_616.out _; (with_reducible repeat (first | refine blk_drewN ?_ _ | refine blk_drew ?_ | refine blk_alloc ?_ _)); exact BK611.out⟩, ⟨by (with_reducible repeat (first | refine blk_drewN ?_ _ | refine blk_drew ?_ | refine blk_alloc ?_ _)); refine blk_put (cs := #[.string t612, .string t613, .int .i64 0]) ?_ 2 _ rfl; (with_reducible repeat (first | refine blk_drewN ?_ _ | refine blk_drew ?_ | refine blk_alloc ?_ _)); refine blk_put (cs := #[.string t612, .string (⟨#[]⟩ : ByteArray), .int .i64 0]) ?_ 1 _ rfl; (with_reducible repeat (first | refine blk_drewN ?_ _ | refine blk_drew ?_ | refine blk_alloc ?_ _)); refine blk_put (cs := #[.string (⟨#[]⟩ : ByteArray), .string (⟨#[]⟩ : ByteArray), .int .i64 0]) ?_ 0 _ rfl; (with_reducible repeat (first | refine blk_drewN ?_ _ | refine blk_drew ?_ | refine blk_alloc ?_ _)); exact BK616.out⟩, ⟨by repeat (first | (with_reducible first | exact HB.out | apply below_alloc | apply pw_below_drewN | apply below_drew1 | refine below_set ?_ GE587.out | refine below_set ?_ GE601.out | refine below_set ?_ GE606.out | refine below_set ?_ GE611.out | refine below_set ?_ GE616.out) | exact HB.out)⟩⟩
          · rw [if_neg c51] at H
            have c51b0 : (a2.toList == a1_3.toList) = false := beq_eq_false_iff_ne.mpr c51
            have c51b1 : (a2.toList != a1_3.toList) = true := bne_iff_ne.mpr c51
            (first | rw [c51b0] | (simp only [i64_w, i32_w]; rw [c51b0]) | skip)
            by_cases c132 : (!(t607.toList == t612.toList) || (!(t608.toList == t613.toList) || (!(t609 == t614)))) = true
            · rw [if_pos c132] at H
              have c132b0 : (!(t607.toList == t612.toList) || (!(t608.toList == t613.toList) || (!(t609 == t614)))) = true := c132
              clear c132
              have H' := Aside0.mk H
              clear H
              have hnb133 := NB587_601.out
              have hnc133 := NB601_587.out
              have hnb134 := NB587_606.out
              have hnc134 := NB606_587.out
              have hnb135 := NB587_611.out
              have hnc135 := NB611_587.out
              have hnb136 := NB587_616.out
              have hnc136 := NB616_587.out
              have hcz137_0 : w45.cell? ⟨gb587, 0, none⟩ = some (.int .i64 a1_0) := (blk_cell BK587.out 0).trans rfl
              have hcz137_1 : w45.cell? ⟨gb587, 1, none⟩ = some (.int .i64 a1_1) := (blk_cell BK587.out 1).trans rfl
              have hcz137_2 : w45.cell? ⟨gb587, 2, none⟩ = some (.int .i64 a1_2) := (blk_cell BK587.out 2).trans rfl
              have hcz137_3 : w45.cell? ⟨gb587, 3, none⟩ = some (.string a1_3) := (blk_cell BK587.out 3).trans rfl
              have hcz137_4 : w45.cell? ⟨gb587, 4, none⟩ = some (.string a1_4) := (blk_cell BK587.out 4).trans rfl
              have hcz137_5 : w45.cell? ⟨gb587, 5, none⟩ = some (.string a1_5) := (blk_cell BK587.out 5).trans rfl
              have hcz137_6 : w45.cell? ⟨gb587, 6, none⟩ = some (.int .i64 a1_6) := (blk_cell BK587.out 6).trans rfl
              have hfz137_0 := blk_frozen BK587.out 0
              have hfz137_1 := blk_frozen BK587.out 1
              have hfz137_2 := blk_frozen BK587.out 2
              have hfz137_3 := blk_frozen BK587.out 3
              have hfz137_4 := blk_frozen BK587.out 4
              have hfz137_5 := blk_frozen BK587.out 5
              have hfz137_6 := blk_frozen BK587.out 6
              have hnb138 := NB611_601.out
              have hnc138 := NB601_611.out
              have hnb139 := NB611_606.out
              have hnc139 := NB606_611.out
              have hnb140 := NB611_616.out
              have hnc140 := NB616_611.out
              have hcz141_0 : w45.cell? ⟨gb611, 0, none⟩ = some (.string t607) := (blk_cell BK611.out 0).trans rfl
              have hcz141_1 : w45.cell? ⟨gb611, 1, none⟩ = some (.string t608) := (blk_cell BK611.out 1).trans rfl
              have hcz141_2 : w45.cell? ⟨gb611, 2, none⟩ = some (.int .i64 t609) := (blk_cell BK611.out 2).trans rfl
              have hfz141_0 := blk_frozen BK611.out 0
              have hfz141_1 := blk_frozen BK611.out 1
              have hfz141_2 := blk_frozen BK611.out 2
              have hnb142 := NB616_601.out
              have hnc142 := NB601_616.out
              have hnb143 := NB616_606.out
              have hnc143 := NB606_616.out
              have hcz144_0 : w45.cell? ⟨gb616, 0, none⟩ = some (.string (⟨#[]⟩ : ByteArray)) := (blk_cell BK616.out 0).trans rfl
              have hcz144_1 : w45.cell? ⟨gb616, 1, none⟩ = some (.string (⟨#[]⟩ : ByteArray)) := (blk_cell BK616.out 1).trans rfl
              have hcz144_2 : w45.cell? ⟨gb616, 2, none⟩ = some (.int .i64 0) := (blk_cell BK616.out 2).trans rfl
              have hfz144_0 := blk_frozen BK616.out 0
              have hfz144_1 := blk_frozen BK616.out 1
              have hfz144_2 := blk_frozen BK616.out 2
              go_wp2
              go_meet
              case rel => exact ⟨_, (true), (by first | rfl | (simp; done) | (simp [*]; done)), H', ⟨by have := HJ3.out; first | omega | exact Nat.le_refl _⟩, ⟨by (with_reducible repeat (first | apply Kd.R_alloc | apply Kd.R_drewN | apply Kd.R_drew)); exact Kd.R_mono (Kd.R_far (p := ⟨gb616, 2, none⟩) (Kd.R_far (p := ⟨gb616, 1, none⟩) (Kd.R_far (p := ⟨gb616, 0, none⟩) (Kd.R_mono HO594.out (fun k_ hk => (⟨hk, hk.2⟩ : _ ∧ k_ ≠ gb616))) (fun _ hk => hk.2) (.string t612)) (fun _ hk => hk.2) (.string t613)) (fun _ hk => hk.2) (.int .i64 t614)) (fun _ hk => ⟨hk.1.1.1.2, ⟨hk.1.1.2, hk.1.2⟩⟩)⟩, ⟨by (with_reducible repeat (first | refine blk_drewN ?_ _ | refine blk_drew ?_ | refine blk_alloc ?_ _)); refine blk_far ?_ NB587_616.out _; (with_reducible repeat (first | refine blk_drewN ?_ _ | refine blk_drew ?_ | refine blk_alloc ?_ _)); refine blk_far ?_ NB587_616.out _; (with_reducible repeat (first | refine blk_drewN ?_ _ | refine blk_drew ?_ | refine blk_alloc ?_ _)); refine blk_far ?_ NB587_616.out _; (with_reducible repeat (first | refine blk_drewN ?_ _ | refine blk_drew ?_ | refine blk_alloc ?_ _)); exact BK587.out⟩, ⟨by (with_reducible repeat (first | refine blk_drewN ?_ _ | refine blk_drew ?_ | refine blk_alloc ?_ _)); refine blk_far ?_ NB601_616.out _; (with_reducible repeat (first | refine blk_drewN ?_ _ | refine blk_drew ?_ | refine blk_alloc ?_ _)); refine blk_far ?_ NB601_616.out _; (with_reducible repeat (first | refine blk_drewN ?_ _ | refine blk_drew ?_ | refine blk_alloc ?_ _)); refine blk_far ?_ NB601_616.out _; (with_reducible repeat (first | refine blk_drewN ?_ _ | refine blk_drew ?_ | refine blk_alloc ?_ _)); exact BK601.out⟩, ⟨by (with_reducible repeat (first | refine blk_drewN ?_ _ | refine blk_drew ?_ | refine blk_alloc ?_ _)); refine blk_far ?_ NB606_616.out _; (with_reducible repeat (first | refine blk_drewN ?_ _ | refine blk_drew ?_ | refine blk_alloc ?_ _)); refine blk_far ?_ NB606_616.out _; (with_reducible repeat (first | refine blk_drewN ?_ _ | refine blk_drew ?_ | refine blk_alloc ?_ _)); refine blk_far ?_ NB606_616.out _; (with_reducible repeat (first | refine blk_drewN ?_ _ | refine blk_drew ?_ | refine blk_alloc ?_ _)); exact BK606.out⟩, ⟨by (with_reducible repeat (first | refine blk_drewN ?_ _ | refine blk_drew ?_ | refine blk_alloc ?_ _)); refine blk_far ?_ NB611_616.out _; (with_reducible repeat (first | refine blk_drewN ?_ _ | refine blk_drew ?_ | refine blk_alloc ?_ _)); refine blk_far ?_ NB611_616.out _; (with_reducible repeat (first | refine blk_drewN ?_ _ | refine blk_drew ?_ | refine blk_alloc ?_ _)); refine blk_far ?_ NB611_616.out _; (with_reducible repeat (first | refine blk_drewN ?_ _ | refine blk_drew ?_ | refine blk_alloc ?_ _)); exact BK611.out⟩, ⟨by (with_reducible repeat (first | refine blk_drewN ?_ _ | refine blk_drew ?_ | refine blk_alloc ?_ _)); refine blk_put (cs := #[.string t612, .string t613, .int .i64 0]) ?_ 2 _ rfl; (with_reducible repeat (first | refine blk_drewN ?_ _ | refine blk_drew ?_ | refine blk_alloc ?_ _)); refine blk_put (cs := #[.string t612, .string (⟨#[]⟩ : ByteArray), .int .i64 0]) ?_ 1 _ rfl; (with_reducible repeat (first | refine blk_drewN ?_ _ | refine blk_drew ?_ | refine blk_alloc ?_ _)); refine blk_put (cs := #[.string (⟨#[]⟩ : ByteArray), .string (⟨#[]⟩ : ByteArray), .int .i64 0]) ?_ 0 _ rfl; (with_reducible repeat (first | refine blk_drewN ?_ _ | refine blk_drew ?_ | refine blk_alloc ?_ _)); exact BK616.out⟩, ⟨by repeat (first | (with_reducible first | exact HB.out | apply below_alloc | apply pw_below_drewN | apply below_drew1 | refine below_set ?_ GE587.out | refine below_set ?_ GE601.out | refine below_set ?_ GE606.out | refine below_set ?_ GE611.out | refine below_set ?_ GE616.out) | exact HB.out)⟩⟩
            · rw [if_neg c132] at H
              have c132b0 : (!(t607.toList == t612.toList) || (!(t608.toList == t613.toList) || (!(t609 == t614)))) = false := by simpa using c132
              clear c132
              by_cases c145 : (t610 != t615) = true
              · rw [if_pos c145] at H
                have c145b0 : (t610 != t615) = true := c145
                (try (have c145b1 : decide (t610 = t615) = false := by simpa using c145))
                (try (have c145b2 : (t610 == t615) = false := by simpa using c145))
                (try (have c145b3 : ¬ (t610 = t615) := by simpa using c145))
                clear c145
                have H' := Aside0.mk H
                clear H
                have hnb146 := NB587_601.out
                have hnc146 := NB601_587.out
                have hnb147 := NB587_606.out
                have hnc147 := NB606_587.out
                have hnb148 := NB587_611.out
                have hnc148 := NB611_587.out
                have hnb149 := NB587_616.out
                have hnc149 := NB616_587.out
                have hcz150_0 : w45.cell? ⟨gb587, 0, none⟩ = some (.int .i64 a1_0) := (blk_cell BK587.out 0).trans rfl
                have hcz150_1 : w45.cell? ⟨gb587, 1, none⟩ = some (.int .i64 a1_1) := (blk_cell BK587.out 1).trans rfl
                have hcz150_2 : w45.cell? ⟨gb587, 2, none⟩ = some (.int .i64 a1_2) := (blk_cell BK587.out 2).trans rfl
                have hcz150_3 : w45.cell? ⟨gb587, 3, none⟩ = some (.string a1_3) := (blk_cell BK587.out 3).trans rfl
                have hcz150_4 : w45.cell? ⟨gb587, 4, none⟩ = some (.string a1_4) := (blk_cell BK587.out 4).trans rfl
                have hcz150_5 : w45.cell? ⟨gb587, 5, none⟩ = some (.string a1_5) := (blk_cell BK587.out 5).trans rfl
                have hcz150_6 : w45.cell? ⟨gb587, 6, none⟩ = some (.int .i64 a1_6) := (blk_cell BK587.out 6).trans rfl
                have hfz150_0 := blk_frozen BK587.out 0
                have hfz150_1 := blk_frozen BK587.out 1
                have hfz150_2 := blk_frozen BK587.out 2
                have hfz150_3 := blk_frozen BK587.out 3
                have hfz150_4 := blk_frozen BK587.out 4
                have hfz150_5 := blk_frozen BK587.out 5
                have hfz150_6 := blk_frozen BK587.out 6
                have hnb151 := NB611_601.out
                have hnc151 := NB601_611.out
                have hnb152 := NB611_606.out
                have hnc152 := NB606_611.out
                have hnb153 := NB611_616.out
                have hnc153 := NB616_611.out
                have hcz154_0 : w45.cell? ⟨gb611, 0, none⟩ = some (.string t607) := (blk_cell BK611.out 0).trans rfl
                have hcz154_1 : w45.cell? ⟨gb611, 1, none⟩ = some (.string t608) := (blk_cell BK611.out 1).trans rfl
                have hcz154_2 : w45.cell? ⟨gb611, 2, none⟩ = some (.int .i64 t609) := (blk_cell BK611.out 2).trans rfl
                have hfz154_0 := blk_frozen BK611.out 0
                have hfz154_1 := blk_frozen BK611.out 1
                have hfz154_2 := blk_frozen BK611.out 2
                have hnb155 := NB616_601.out
                have hnc155 := NB601_616.out
                have hnb156 := NB616_606.out
                have hnc156 := NB606_616.out
                have hcz157_0 : w45.cell? ⟨gb616, 0, none⟩ = some (.string (⟨#[]⟩ : ByteArray)) := (blk_cell BK616.out 0).trans rfl
                have hcz157_1 : w45.cell? ⟨gb616, 1, none⟩ = some (.string (⟨#[]⟩ : ByteArray)) := (blk_cell BK616.out 1).trans rfl
                have hcz157_2 : w45.cell? ⟨gb616, 2, none⟩ = some (.int .i64 0) := (blk_cell BK616.out 2).trans rfl
                have hfz157_0 := blk_frozen BK616.out 0
                have hfz157_1 := blk_frozen BK616.out 1
                have hfz157_2 := blk_frozen BK616.out 2
                go_wp2
                go_meet
                case rel => exact ⟨_, (true), (by first | rfl | (simp; done) | (simp [*]; done)), H', ⟨by have := HJ3.out; first | omega | exact Nat.le_refl _⟩, ⟨by (with_reducible repeat (first | apply Kd.R_alloc | apply Kd.R_drewN | apply Kd.R_drew)); exact Kd.R_mono (Kd.R_far (p := ⟨gb616, 2, none⟩) (Kd.R_far (p := ⟨gb616, 1, none⟩) (Kd.R_far (p := ⟨gb616, 0, none⟩) (Kd.R_mono HO594.out (fun k_ hk => (⟨hk, hk.2⟩ : _ ∧ k_ ≠ gb616))) (fun _ hk => hk.2) (.string t612)) (fun _ hk => hk.2) (.string t613)) (fun _ hk => hk.2) (.int .i64 t614)) (fun _ hk => ⟨hk.1.1.1.2, ⟨hk.1.1.2, hk.1.2⟩⟩)⟩, ⟨by (with_reducible repeat (first | refine blk_drewN ?_ _ | refine blk_drew ?_ | refine blk_alloc ?_ _)); refine blk_far ?_ NB587_616.out _; (with_reducible repeat (first | refine blk_drewN ?_ _ | refine blk_drew ?_ | refine blk_alloc ?_ _)); refine blk_far ?_ NB587_616.out _; (with_reducible repeat (first | refine blk_drewN ?_ _ | refine blk_drew ?_ | refine blk_alloc ?_ _)); refine blk_far ?_ NB587_616.out _; (with_reducible repeat (first | refine blk_drewN ?_ _ | refine blk_drew ?_ | refine blk_alloc ?_ _)); exact BK587.out⟩, ⟨by (with_reducible repeat (first | refine blk_drewN ?_ _ | refine blk_drew ?_ | refine blk_alloc ?_ _)); refine blk_far ?_ NB601_616.out _; (with_reducible repeat (first | refine blk_drewN ?_ _ | refine blk_drew ?_ | refine blk_alloc ?_ _)); refine blk_far ?_ NB601_616.out _; (with_reducible repeat (first | refine blk_drewN ?_ _ | refine blk_drew ?_ | refine blk_alloc ?_ _)); refine blk_far ?_ NB601_616.out _; (with_reducible repeat (first | refine blk_drewN ?_ _ | refine blk_drew ?_ | refine blk_alloc ?_ _)); exact BK601.out⟩, ⟨by (with_reducible repeat (first | refine blk_drewN ?_ _ | refine blk_drew ?_ | refine blk_alloc ?_ _)); refine blk_far ?_ NB606_616.out _; (with_reducible repeat (first | refine blk_drewN ?_ _ | refine blk_drew ?_ | refine blk_alloc ?_ _)); refine blk_far ?_ NB606_616.out _; (with_reducible repeat (first | refine blk_drewN ?_ _ | refine blk_drew ?_ | refine blk_alloc ?_ _)); refine blk_far ?_ NB606_616.out _; (with_reducible repeat (first | refine blk_drewN ?_ _ | refine blk_drew ?_ | refine blk_alloc ?_ _)); exact BK606.out⟩, ⟨by (with_reducible repeat (first | refine blk_drewN ?_ _ | refine blk_drew ?_ | refine blk_alloc ?_ _)); refine blk_far ?_ NB611_616.out _; (with_reducible repeat (first | refine blk_drewN ?_ _ | refine blk_drew ?_ | refine blk_alloc ?_ _)); refine blk_far ?_ NB611_616.out _; (with_reducible repeat (first | refine blk_drewN ?_ _ | refine blk_drew ?_ | refine blk_alloc ?_ _)); refine blk_far ?_ NB611_616.out _; (with_reducible repeat (first | refine blk_drewN ?_ _ | refine blk_drew ?_ | refine blk_alloc ?_ _)); exact BK611.out⟩, ⟨by (with_reducible repeat (first | refine blk_drewN ?_ _ | refine blk_drew ?_ | refine blk_alloc ?_ _)); refine blk_put (cs := #[.string t612, .string t613, .int .i64 0]) ?_ 2 _ rfl; (with_reducible repeat (first | refine blk_drewN ?_ _ | refine blk_drew ?_ | refine blk_alloc ?_ _)); refine blk_put (cs := #[.string t612, .string (⟨#[]⟩ : ByteArray), .int .i64 0]) ?_ 1 _ rfl; (with_reducible repeat (first | refine blk_drewN ?_ _ | refine blk_drew ?_ | refine blk_alloc ?_ _)); refine blk_put (cs := #[.string (⟨#[]⟩ : ByteArray), .string (⟨#[]⟩ : ByteArray), .int .i64 0]) ?_ 0 _ rfl; (with_reducible repeat (first | refine blk_drewN ?_ _ | refine blk_drew ?_ | refine blk_alloc ?_ _)); exact BK616.out⟩, ⟨by repeat (first | (with_reducible first | exact HB.out | apply below_alloc | apply pw_below_drewN | apply below_drew1 | refine below_set ?_ GE587.out | refine below_set ?_ GE601.out | refine below_set ?_ GE606.out | refine below_set ?_ GE611.out | refine below_set ?_ GE616.out) | exact HB.out)⟩⟩
              · rw [if_neg c145] at H
                have c145b0 : (t610 != t615) = false := by simpa using c145
                (try (have c145b1 : decide (t610 = t615) = true := by simpa using c145))
                (try (have c145b2 : (t610 == t615) = true := by simpa using c145))
                clear c145
                by_cases c158 : a1_0 = 2
                · rw [if_pos c158] at H
                  have c158b0 : (a1_0 == 2) = true := beq_iff_eq.mpr c158
                  have c158b1 : (a1_0 != 2) = false := bne_eq_false_iff_eq.mpr c158
                  clear c158
                  by_cases c159 : t597 = 0
                  · rw [if_pos c159] at H
                    have c159b0 : (t597 == 0) = true := beq_iff_eq.mpr c159
                    have c159b1 : (t597 != 0) = false := bne_eq_false_iff_eq.mpr c159
                    clear c159
                    by_cases c160 : t605 = true
                    · subst c160
                      have H1 : (if t603.toList = a1_4.toList then (if a1_0 = 4 then (changeoverlaw23_KvoneKeeps.j1 kj3 l0 t592 true a1_0 a1_1 a1_2 a1_3 a1_4 a1_5 a1_6) else (changeoverlaw23_KvoneKeeps.j1 kj3 l0 t592 false a1_0 a1_1 a1_2 a1_3 a1_4 a1_5 a1_6)) else (changeoverlaw23_KvoneKeeps.j1 kj3 l0 t592 true a1_0 a1_1 a1_2 a1_3 a1_4 a1_5 a1_6)) = some r := by rw [if_pos rfl] at H; exact H
                      clear H
                      have H := H1
                      clear H1
                      by_cases c161 : t603.toList = a1_4.toList
                      · rw [if_pos c161] at H
                        have c161b0 : (t603.toList == a1_4.toList) = true := beq_iff_eq.mpr c161
                        have c161b1 : (t603.toList != a1_4.toList) = false := bne_eq_false_iff_eq.mpr c161
                        clear c161
                        by_cases c162 : a1_0 = 4
                        · rw [if_pos c162] at H
                          have c162b0 : (a1_0 == 4) = true := beq_iff_eq.mpr c162
                          have c162b1 : (a1_0 != 4) = false := bne_eq_false_iff_eq.mpr c162
                          clear c162
                          have H' := Aside0.mk H
                          clear H
                          have hnb163 := NB587_601.out
                          have hnc163 := NB601_587.out
                          have hnb164 := NB587_606.out
                          have hnc164 := NB606_587.out
                          have hnb165 := NB587_611.out
                          have hnc165 := NB611_587.out
                          have hnb166 := NB587_616.out
                          have hnc166 := NB616_587.out
                          have hcz167_0 : w45.cell? ⟨gb587, 0, none⟩ = some (.int .i64 a1_0) := (blk_cell BK587.out 0).trans rfl
                          have hcz167_1 : w45.cell? ⟨gb587, 1, none⟩ = some (.int .i64 a1_1) := (blk_cell BK587.out 1).trans rfl
                          have hcz167_2 : w45.cell? ⟨gb587, 2, none⟩ = some (.int .i64 a1_2) := (blk_cell BK587.out 2).trans rfl
                          have hcz167_3 : w45.cell? ⟨gb587, 3, none⟩ = some (.string a1_3) := (blk_cell BK587.out 3).trans rfl
                          have hcz167_4 : w45.cell? ⟨gb587, 4, none⟩ = some (.string a1_4) := (blk_cell BK587.out 4).trans rfl
                          have hcz167_5 : w45.cell? ⟨gb587, 5, none⟩ = some (.string a1_5) := (blk_cell BK587.out 5).trans rfl
                          have hcz167_6 : w45.cell? ⟨gb587, 6, none⟩ = some (.int .i64 a1_6) := (blk_cell BK587.out 6).trans rfl
                          have hfz167_0 := blk_frozen BK587.out 0
                          have hfz167_1 := blk_frozen BK587.out 1
                          have hfz167_2 := blk_frozen BK587.out 2
                          have hfz167_3 := blk_frozen BK587.out 3
                          have hfz167_4 := blk_frozen BK587.out 4
                          have hfz167_5 := blk_frozen BK587.out 5
                          have hfz167_6 := blk_frozen BK587.out 6
                          have hnb168 := NB611_601.out
                          have hnc168 := NB601_611.out
                          have hnb169 := NB611_606.out
                          have hnc169 := NB606_611.out
                          have hnb170 := NB611_616.out
                          have hnc170 := NB616_611.out
                          have hcz171_0 : w45.cell? ⟨gb611, 0, none⟩ = some (.string t607) := (blk_cell BK611.out 0).trans rfl
                          have hcz171_1 : w45.cell? ⟨gb611, 1, none⟩ = some (.string t608) := (blk_cell BK611.out 1).trans rfl
                          have hcz171_2 : w45.cell? ⟨gb611, 2, none⟩ = some (.int .i64 t609) := (blk_cell BK611.out 2).trans rfl
                          have hfz171_0 := blk_frozen BK611.out 0
                          have hfz171_1 := blk_frozen BK611.out 1
                          have hfz171_2 := blk_frozen BK611.out 2
                          have hnb172 := NB616_601.out
                          have hnc172 := NB601_616.out
                          have hnb173 := NB616_606.out
                          have hnc173 := NB606_616.out
                          have hcz174_0 : w45.cell? ⟨gb616, 0, none⟩ = some (.string (⟨#[]⟩ : ByteArray)) := (blk_cell BK616.out 0).trans rfl
                          have hcz174_1 : w45.cell? ⟨gb616, 1, none⟩ = some (.string (⟨#[]⟩ : ByteArray)) := (blk_cell BK616.out 1).trans rfl
                          have hcz174_2 : w45.cell? ⟨gb616, 2, none⟩ = some (.int .i64 0) := (blk_cell BK616.out 2).trans rfl
                          have hfz174_0 := blk_frozen BK616.out 0
                          have hfz174_1 := blk_frozen BK616.out 1
                          have hfz174_2 := blk_frozen BK616.out 2
                          have hnb175 := NB601_606.out
                          have hnc175 := NB606_601.out
                          have hcz176_0 : w45.cell? ⟨gb601, 0, none⟩ = some (.int .i64 t595) := (blk_cell BK601.out 0).trans rfl
                          have hcz176_1 : w45.cell? ⟨gb601, 1, none⟩ = some (.int .i64 t596) := (blk_cell BK601.out 1).trans rfl
                          have hcz176_2 : w45.cell? ⟨gb601, 2, none⟩ = some (.int .i64 t597) := (blk_cell BK601.out 2).trans rfl
                          have hcz176_3 : w45.cell? ⟨gb601, 3, none⟩ = some (.bool t598) := (blk_cell BK601.out 3).trans rfl
                          have hcz176_4 : w45.cell? ⟨gb601, 4, none⟩ = some (.string t599) := (blk_cell BK601.out 4).trans rfl
                          have hcz176_5 : w45.cell? ⟨gb601, 5, none⟩ = some (.int .i64 t600) := (blk_cell BK601.out 5).trans rfl
                          have hfz176_0 := blk_frozen BK601.out 0
                          have hfz176_1 := blk_frozen BK601.out 1
                          have hfz176_2 := blk_frozen BK601.out 2
                          have hfz176_3 := blk_frozen BK601.out 3
                          have hfz176_4 := blk_frozen BK601.out 4
                          have hfz176_5 := blk_frozen BK601.out 5
                          have hcz177_0 : w45.cell? ⟨gb606, 0, none⟩ = some (.string t602) := (blk_cell BK606.out 0).trans rfl
                          have hcz177_1 : w45.cell? ⟨gb606, 1, none⟩ = some (.string t603) := (blk_cell BK606.out 1).trans rfl
                          have hcz177_2 : w45.cell? ⟨gb606, 2, none⟩ = some (.int .i64 t604) := (blk_cell BK606.out 2).trans rfl
                          have hfz177_0 := blk_frozen BK606.out 0
                          have hfz177_1 := blk_frozen BK606.out 1
                          have hfz177_2 := blk_frozen BK606.out 2
                          go_wp2
                          go_meet
                          case rel => exact ⟨_, (true), (by first | rfl | (simp; done) | (simp [*]; done)), H', ⟨by have := HJ3.out; first | omega | exact Nat.le_refl _⟩, ⟨by (with_reducible repeat (first | apply Kd.R_alloc | apply Kd.R_drewN | apply Kd.R_drew)); exact Kd.R_mono (Kd.R_far (p := ⟨gb616, 2, none⟩) (Kd.R_far (p := ⟨gb616, 1, none⟩) (Kd.R_far (p := ⟨gb616, 0, none⟩) (Kd.R_mono HO594.out (fun k_ hk => (⟨hk, hk.2⟩ : _ ∧ k_ ≠ gb616))) (fun _ hk => hk.2) (.string t612)) (fun _ hk => hk.2) (.string t613)) (fun _ hk => hk.2) (.int .i64 t614)) (fun _ hk => ⟨hk.1.1.1.2, ⟨hk.1.1.2, hk.1.2⟩⟩)⟩, ⟨by (with_reducible repeat (first | refine blk_drewN ?_ _ | refine blk_drew ?_ | refine blk_alloc ?_ _)); refine blk_far ?_ NB587_616.out _; (with_reducible repeat (first | refine blk_drewN ?_ _ | refine blk_drew ?_ | refine blk_alloc ?_ _)); refine blk_far ?_ NB587_616.out _; (with_reducible repeat (first | refine blk_drewN ?_ _ | refine blk_drew ?_ | refine blk_alloc ?_ _)); refine blk_far ?_ NB587_616.out _; (with_reducible repeat (first | refine blk_drewN ?_ _ | refine blk_drew ?_ | refine blk_alloc ?_ _)); exact BK587.out⟩, ⟨by (with_reducible repeat (first | refine blk_drewN ?_ _ | refine blk_drew ?_ | refine blk_alloc ?_ _)); refine blk_far ?_ NB601_616.out _; (with_reducible repeat (first | refine blk_drewN ?_ _ | refine blk_drew ?_ | refine blk_alloc ?_ _)); refine blk_far ?_ NB601_616.out _; (with_reducible repeat (first | refine blk_drewN ?_ _ | refine blk_drew ?_ | refine blk_alloc ?_ _)); refine blk_far ?_ NB601_616.out _; (with_reducible repeat (first | refine blk_drewN ?_ _ | refine blk_drew ?_ | refine blk_alloc ?_ _)); exact BK601.out⟩, ⟨by (with_reducible repeat (first | refine blk_drewN ?_ _ | refine blk_drew ?_ | refine blk_alloc ?_ _)); refine blk_far ?_ NB606_616.out _; (with_reducible repeat (first | refine blk_drewN ?_ _ | refine blk_drew ?_ | refine blk_alloc ?_ _)); refine blk_far ?_ NB606_616.out _; (with_reducible repeat (first | refine blk_drewN ?_ _ | refine blk_drew ?_ | refine blk_alloc ?_ _)); refine blk_far ?_ NB606_616.out _; (with_reducible repeat (first | refine blk_drewN ?_ _ | refine blk_drew ?_ | refine blk_alloc ?_ _)); exact BK606.out⟩, ⟨by (with_reducible repeat (first | refine blk_drewN ?_ _ | refine blk_drew ?_ | refine blk_alloc ?_ _)); refine blk_far ?_ NB611_616.out _; (with_reducible repeat (first | refine blk_drewN ?_ _ | refine blk_drew ?_ | refine blk_alloc ?_ _)); refine blk_far ?_ NB611_616.out _; (with_reducible repeat (first | refine blk_drewN ?_ _ | refine blk_drew ?_ | refine blk_alloc ?_ _)); refine blk_far ?_ NB611_616.out _; (with_reducible repeat (first | refine blk_drewN ?_ _ | refine blk_drew ?_ | refine blk_alloc ?_ _)); exact BK611.out⟩, ⟨by (with_reducible repeat (first | refine blk_drewN ?_ _ | refine blk_drew ?_ | refine blk_alloc ?_ _)); refine blk_put (cs := #[.string t612, .string t613, .int .i64 0]) ?_ 2 _ rfl; (with_reducible repeat (first | refine blk_drewN ?_ _ | refine blk_drew ?_ | refine blk_alloc ?_ _)); refine blk_put (cs := #[.string t612, .string (⟨#[]⟩ : ByteArray), .int .i64 0]) ?_ 1 _ rfl; (with_reducible repeat (first | refine blk_drewN ?_ _ | refine blk_drew ?_ | refine blk_alloc ?_ _)); refine blk_put (cs := #[.string (⟨#[]⟩ : ByteArray), .string (⟨#[]⟩ : ByteArray), .int .i64 0]) ?_ 0 _ rfl; (with_reducible repeat (first | refine blk_drewN ?_ _ | refine blk_drew ?_ | refine blk_alloc ?_ _)); exact BK616.out⟩, ⟨by repeat (first | (with_reducible first | exact HB.out | apply below_alloc | apply pw_below_drewN | apply below_drew1 | refine below_set ?_ GE587.out | refine below_set ?_ GE601.out | refine below_set ?_ GE606.out | refine below_set ?_ GE611.out | refine below_set ?_ GE616.out) | exact HB.out)⟩⟩
                        · rw [if_neg c162] at H
                          have c162b0 : (a1_0 == 4) = false := beq_eq_false_iff_ne.mpr c162
                          have c162b1 : (a1_0 != 4) = true := bne_iff_ne.mpr c162
                          have H' := Aside0.mk H
                          clear H
                          have hnb178 := NB587_601.out
                          have hnc178 := NB601_587.out
                          have hnb179 := NB587_606.out
                          have hnc179 := NB606_587.out
                          have hnb180 := NB587_611.out
                          have hnc180 := NB611_587.out
                          have hnb181 := NB587_616.out
                          have hnc181 := NB616_587.out
                          have hcz182_0 : w45.cell? ⟨gb587, 0, none⟩ = some (.int .i64 a1_0) := (blk_cell BK587.out 0).trans rfl
                          have hcz182_1 : w45.cell? ⟨gb587, 1, none⟩ = some (.int .i64 a1_1) := (blk_cell BK587.out 1).trans rfl
                          have hcz182_2 : w45.cell? ⟨gb587, 2, none⟩ = some (.int .i64 a1_2) := (blk_cell BK587.out 2).trans rfl
                          have hcz182_3 : w45.cell? ⟨gb587, 3, none⟩ = some (.string a1_3) := (blk_cell BK587.out 3).trans rfl
                          have hcz182_4 : w45.cell? ⟨gb587, 4, none⟩ = some (.string a1_4) := (blk_cell BK587.out 4).trans rfl
                          have hcz182_5 : w45.cell? ⟨gb587, 5, none⟩ = some (.string a1_5) := (blk_cell BK587.out 5).trans rfl
                          have hcz182_6 : w45.cell? ⟨gb587, 6, none⟩ = some (.int .i64 a1_6) := (blk_cell BK587.out 6).trans rfl
                          have hfz182_0 := blk_frozen BK587.out 0
                          have hfz182_1 := blk_frozen BK587.out 1
                          have hfz182_2 := blk_frozen BK587.out 2
                          have hfz182_3 := blk_frozen BK587.out 3
                          have hfz182_4 := blk_frozen BK587.out 4
                          have hfz182_5 := blk_frozen BK587.out 5
                          have hfz182_6 := blk_frozen BK587.out 6
                          have hnb183 := NB611_601.out
                          have hnc183 := NB601_611.out
                          have hnb184 := NB611_606.out
                          have hnc184 := NB606_611.out
                          have hnb185 := NB611_616.out
                          have hnc185 := NB616_611.out
                          have hcz186_0 : w45.cell? ⟨gb611, 0, none⟩ = some (.string t607) := (blk_cell BK611.out 0).trans rfl
                          have hcz186_1 : w45.cell? ⟨gb611, 1, none⟩ = some (.string t608) := (blk_cell BK611.out 1).trans rfl
                          have hcz186_2 : w45.cell? ⟨gb611, 2, none⟩ = some (.int .i64 t609) := (blk_cell BK611.out 2).trans rfl
                          have hfz186_0 := blk_frozen BK611.out 0
                          have hfz186_1 := blk_frozen BK611.out 1
                          have hfz186_2 := blk_frozen BK611.out 2
                          have hnb187 := NB616_601.out
                          have hnc187 := NB601_616.out
                          have hnb188 := NB616_606.out
                          have hnc188 := NB606_616.out
                          have hcz189_0 : w45.cell? ⟨gb616, 0, none⟩ = some (.string (⟨#[]⟩ : ByteArray)) := (blk_cell BK616.out 0).trans rfl
                          have hcz189_1 : w45.cell? ⟨gb616, 1, none⟩ = some (.string (⟨#[]⟩ : ByteArray)) := (blk_cell BK616.out 1).trans rfl
                          have hcz189_2 : w45.cell? ⟨gb616, 2, none⟩ = some (.int .i64 0) := (blk_cell BK616.out 2).trans rfl
                          have hfz189_0 := blk_frozen BK616.out 0
                          have hfz189_1 := blk_frozen BK616.out 1
                          have hfz189_2 := blk_frozen BK616.out 2
                          have hnb190 := NB601_606.out
                          have hnc190 := NB606_601.out
                          have hcz191_0 : w45.cell? ⟨gb601, 0, none⟩ = some (.int .i64 t595) := (blk_cell BK601.out 0).trans rfl
                          have hcz191_1 : w45.cell? ⟨gb601, 1, none⟩ = some (.int .i64 t596) := (blk_cell BK601.out 1).trans rfl
                          have hcz191_2 : w45.cell? ⟨gb601, 2, none⟩ = some (.int .i64 t597) := (blk_cell BK601.out 2).trans rfl
                          have hcz191_3 : w45.cell? ⟨gb601, 3, none⟩ = some (.bool t598) := (blk_cell BK601.out 3).trans rfl
                          have hcz191_4 : w45.cell? ⟨gb601, 4, none⟩ = some (.string t599) := (blk_cell BK601.out 4).trans rfl
                          have hcz191_5 : w45.cell? ⟨gb601, 5, none⟩ = some (.int .i64 t600) := (blk_cell BK601.out 5).trans rfl
                          have hfz191_0 := blk_frozen BK601.out 0
                          have hfz191_1 := blk_frozen BK601.out 1
                          have hfz191_2 := blk_frozen BK601.out 2
                          have hfz191_3 := blk_frozen BK601.out 3
                          have hfz191_4 := blk_frozen BK601.out 4
                          have hfz191_5 := blk_frozen BK601.out 5
                          have hcz192_0 : w45.cell? ⟨gb606, 0, none⟩ = some (.string t602) := (blk_cell BK606.out 0).trans rfl
                          have hcz192_1 : w45.cell? ⟨gb606, 1, none⟩ = some (.string t603) := (blk_cell BK606.out 1).trans rfl
                          have hcz192_2 : w45.cell? ⟨gb606, 2, none⟩ = some (.int .i64 t604) := (blk_cell BK606.out 2).trans rfl
                          have hfz192_0 := blk_frozen BK606.out 0
                          have hfz192_1 := blk_frozen BK606.out 1
                          have hfz192_2 := blk_frozen BK606.out 2
                          go_wp2
                          go_meet
                          case rel => exact ⟨_, (false), (by first | rfl | (simp; done) | (simp [*]; done)), H', ⟨by have := HJ3.out; first | omega | exact Nat.le_refl _⟩, ⟨by (with_reducible repeat (first | apply Kd.R_alloc | apply Kd.R_drewN | apply Kd.R_drew)); exact Kd.R_mono (Kd.R_far (p := ⟨gb616, 2, none⟩) (Kd.R_far (p := ⟨gb616, 1, none⟩) (Kd.R_far (p := ⟨gb616, 0, none⟩) (Kd.R_mono HO594.out (fun k_ hk => (⟨hk, hk.2⟩ : _ ∧ k_ ≠ gb616))) (fun _ hk => hk.2) (.string t612)) (fun _ hk => hk.2) (.string t613)) (fun _ hk => hk.2) (.int .i64 t614)) (fun _ hk => ⟨hk.1.1.1.2, ⟨hk.1.1.2, hk.1.2⟩⟩)⟩, ⟨by (with_reducible repeat (first | refine blk_drewN ?_ _ | refine blk_drew ?_ | refine blk_alloc ?_ _)); refine blk_far ?_ NB587_616.out _; (with_reducible repeat (first | refine blk_drewN ?_ _ | refine blk_drew ?_ | refine blk_alloc ?_ _)); refine blk_far ?_ NB587_616.out _; (with_reducible repeat (first | refine blk_drewN ?_ _ | refine blk_drew ?_ | refine blk_alloc ?_ _)); refine blk_far ?_ NB587_616.out _; (with_reducible repeat (first | refine blk_drewN ?_ _ | refine blk_drew ?_ | refine blk_alloc ?_ _)); exact BK587.out⟩, ⟨by (with_reducible repeat (first | refine blk_drewN ?_ _ | refine blk_drew ?_ | refine blk_alloc ?_ _)); refine blk_far ?_ NB601_616.out _; (with_reducible repeat (first | refine blk_drewN ?_ _ | refine blk_drew ?_ | refine blk_alloc ?_ _)); refine blk_far ?_ NB601_616.out _; (with_reducible repeat (first | refine blk_drewN ?_ _ | refine blk_drew ?_ | refine blk_alloc ?_ _)); refine blk_far ?_ NB601_616.out _; (with_reducible repeat (first | refine blk_drewN ?_ _ | refine blk_drew ?_ | refine blk_alloc ?_ _)); exact BK601.out⟩, ⟨by (with_reducible repeat (first | refine blk_drewN ?_ _ | refine blk_drew ?_ | refine blk_alloc ?_ _)); refine blk_far ?_ NB606_616.out _; (with_reducible repeat (first | refine blk_drewN ?_ _ | refine blk_drew ?_ | refine blk_alloc ?_ _)); refine blk_far ?_ NB606_616.out _; (with_reducible repeat (first | refine blk_drewN ?_ _ | refine blk_drew ?_ | refine blk_alloc ?_ _)); refine blk_far ?_ NB606_616.out _; (with_reducible repeat (first | refine blk_drewN ?_ _ | refine blk_drew ?_ | refine blk_alloc ?_ _)); exact BK606.out⟩, ⟨by (with_reducible repeat (first | refine blk_drewN ?_ _ | refine blk_drew ?_ | refine blk_alloc ?_ _)); refine blk_far ?_ NB611_616.out _; (with_reducible repeat (first | refine blk_drewN ?_ _ | refine blk_drew ?_ | refine blk_alloc ?_ _)); refine blk_far ?_ NB611_616.out _; (with_reducible repeat (first | refine blk_drewN ?_ _ | refine blk_drew ?_ | refine blk_alloc ?_ _)); refine blk_far ?_ NB611_616.out _; (with_reducible repeat (first | refine blk_drewN ?_ _ | refine blk_drew ?_ | refine blk_alloc ?_ _)); exact BK611.out⟩, ⟨by (with_reducible repeat (first | refine blk_drewN ?_ _ | refine blk_drew ?_ | refine blk_alloc ?_ _)); refine blk_put (cs := #[.string t612, .string t613, .int .i64 0]) ?_ 2 _ rfl; (with_reducible repeat (first | refine blk_drewN ?_ _ | refine blk_drew ?_ | refine blk_alloc ?_ _)); refine blk_put (cs := #[.string t612, .string (⟨#[]⟩ : ByteArray), .int .i64 0]) ?_ 1 _ rfl; (with_reducible repeat (first | refine blk_drewN ?_ _ | refine blk_drew ?_ | refine blk_alloc ?_ _)); refine blk_put (cs := #[.string (⟨#[]⟩ : ByteArray), .string (⟨#[]⟩ : ByteArray), .int .i64 0]) ?_ 0 _ rfl; (with_reducible repeat (first | refine blk_drewN ?_ _ | refine blk_drew ?_ | refine blk_alloc ?_ _)); exact BK616.out⟩, ⟨by repeat (first | (with_reducible first | exact HB.out | apply below_alloc | apply pw_below_drewN | apply below_drew1 | refine below_set ?_ GE587.out | refine below_set ?_ GE601.out | refine below_set ?_ GE606.out | refine below_set ?_ GE611.out | refine below_set ?_ GE616.out) | exact HB.out)⟩⟩
                      · rw [if_neg c161] at H
                        have c161b0 : (t603.toList == a1_4.toList) = false := beq_eq_false_iff_ne.mpr c161
                        have c161b1 : (t603.toList != a1_4.toList) = true := bne_iff_ne.mpr c161
                        have H' := Aside0.mk H
                        clear H
                        have hnb193 := NB587_601.out
                        have hnc193 := NB601_587.out
                        have hnb194 := NB587_606.out
                        have hnc194 := NB606_587.out
                        have hnb195 := NB587_611.out
                        have hnc195 := NB611_587.out
                        have hnb196 := NB587_616.out
                        have hnc196 := NB616_587.out
                        have hcz197_0 : w45.cell? ⟨gb587, 0, none⟩ = some (.int .i64 a1_0) := (blk_cell BK587.out 0).trans rfl
                        have hcz197_1 : w45.cell? ⟨gb587, 1, none⟩ = some (.int .i64 a1_1) := (blk_cell BK587.out 1).trans rfl
                        have hcz197_2 : w45.cell? ⟨gb587, 2, none⟩ = some (.int .i64 a1_2) := (blk_cell BK587.out 2).trans rfl
                        have hcz197_3 : w45.cell? ⟨gb587, 3, none⟩ = some (.string a1_3) := (blk_cell BK587.out 3).trans rfl
                        have hcz197_4 : w45.cell? ⟨gb587, 4, none⟩ = some (.string a1_4) := (blk_cell BK587.out 4).trans rfl
                        have hcz197_5 : w45.cell? ⟨gb587, 5, none⟩ = some (.string a1_5) := (blk_cell BK587.out 5).trans rfl
                        have hcz197_6 : w45.cell? ⟨gb587, 6, none⟩ = some (.int .i64 a1_6) := (blk_cell BK587.out 6).trans rfl
                        have hfz197_0 := blk_frozen BK587.out 0
                        have hfz197_1 := blk_frozen BK587.out 1
                        have hfz197_2 := blk_frozen BK587.out 2
                        have hfz197_3 := blk_frozen BK587.out 3
                        have hfz197_4 := blk_frozen BK587.out 4
                        have hfz197_5 := blk_frozen BK587.out 5
                        have hfz197_6 := blk_frozen BK587.out 6
                        have hnb198 := NB611_601.out
                        have hnc198 := NB601_611.out
                        have hnb199 := NB611_606.out
                        have hnc199 := NB606_611.out
                        have hnb200 := NB611_616.out
                        have hnc200 := NB616_611.out
                        have hcz201_0 : w45.cell? ⟨gb611, 0, none⟩ = some (.string t607) := (blk_cell BK611.out 0).trans rfl
                        have hcz201_1 : w45.cell? ⟨gb611, 1, none⟩ = some (.string t608) := (blk_cell BK611.out 1).trans rfl
                        have hcz201_2 : w45.cell? ⟨gb611, 2, none⟩ = some (.int .i64 t609) := (blk_cell BK611.out 2).trans rfl
                        have hfz201_0 := blk_frozen BK611.out 0
                        have hfz201_1 := blk_frozen BK611.out 1
                        have hfz201_2 := blk_frozen BK611.out 2
                        have hnb202 := NB616_601.out
                        have hnc202 := NB601_616.out
                        have hnb203 := NB616_606.out
                        have hnc203 := NB606_616.out
                        have hcz204_0 : w45.cell? ⟨gb616, 0, none⟩ = some (.string (⟨#[]⟩ : ByteArray)) := (blk_cell BK616.out 0).trans rfl
                        have hcz204_1 : w45.cell? ⟨gb616, 1, none⟩ = some (.string (⟨#[]⟩ : ByteArray)) := (blk_cell BK616.out 1).trans rfl
                        have hcz204_2 : w45.cell? ⟨gb616, 2, none⟩ = some (.int .i64 0) := (blk_cell BK616.out 2).trans rfl
                        have hfz204_0 := blk_frozen BK616.out 0
                        have hfz204_1 := blk_frozen BK616.out 1
                        have hfz204_2 := blk_frozen BK616.out 2
                        have hnb205 := NB601_606.out
                        have hnc205 := NB606_601.out
                        have hcz206_0 : w45.cell? ⟨gb601, 0, none⟩ = some (.int .i64 t595) := (blk_cell BK601.out 0).trans rfl
                        have hcz206_1 : w45.cell? ⟨gb601, 1, none⟩ = some (.int .i64 t596) := (blk_cell BK601.out 1).trans rfl
                        have hcz206_2 : w45.cell? ⟨gb601, 2, none⟩ = some (.int .i64 t597) := (blk_cell BK601.out 2).trans rfl
                        have hcz206_3 : w45.cell? ⟨gb601, 3, none⟩ = some (.bool t598) := (blk_cell BK601.out 3).trans rfl
                        have hcz206_4 : w45.cell? ⟨gb601, 4, none⟩ = some (.string t599) := (blk_cell BK601.out 4).trans rfl
                        have hcz206_5 : w45.cell? ⟨gb601, 5, none⟩ = some (.int .i64 t600) := (blk_cell BK601.out 5).trans rfl
                        have hfz206_0 := blk_frozen BK601.out 0
                        have hfz206_1 := blk_frozen BK601.out 1
                        have hfz206_2 := blk_frozen BK601.out 2
                        have hfz206_3 := blk_frozen BK601.out 3
                        have hfz206_4 := blk_frozen BK601.out 4
                        have hfz206_5 := blk_frozen BK601.out 5
                        have hcz207_0 : w45.cell? ⟨gb606, 0, none⟩ = some (.string t602) := (blk_cell BK606.out 0).trans rfl
                        have hcz207_1 : w45.cell? ⟨gb606, 1, none⟩ = some (.string t603) := (blk_cell BK606.out 1).trans rfl
                        have hcz207_2 : w45.cell? ⟨gb606, 2, none⟩ = some (.int .i64 t604) := (blk_cell BK606.out 2).trans rfl
                        have hfz207_0 := blk_frozen BK606.out 0
                        have hfz207_1 := blk_frozen BK606.out 1
                        have hfz207_2 := blk_frozen BK606.out 2
                        go_wp2
                        go_meet
                        case rel => exact ⟨_, (true), (by first | rfl | (simp; done) | (simp [*]; done)), H', ⟨by have := HJ3.out; first | omega | exact Nat.le_refl _⟩, ⟨by (with_reducible repeat (first | apply Kd.R_alloc | apply Kd.R_drewN | apply Kd.R_drew)); exact Kd.R_mono (Kd.R_far (p := ⟨gb616, 2, none⟩) (Kd.R_far (p := ⟨gb616, 1, none⟩) (Kd.R_far (p := ⟨gb616, 0, none⟩) (Kd.R_mono HO594.out (fun k_ hk => (⟨hk, hk.2⟩ : _ ∧ k_ ≠ gb616))) (fun _ hk => hk.2) (.string t612)) (fun _ hk => hk.2) (.string t613)) (fun _ hk => hk.2) (.int .i64 t614)) (fun _ hk => ⟨hk.1.1.1.2, ⟨hk.1.1.2, hk.1.2⟩⟩)⟩, ⟨by (with_reducible repeat (first | refine blk_drewN ?_ _ | refine blk_drew ?_ | refine blk_alloc ?_ _)); refine blk_far ?_ NB587_616.out _; (with_reducible repeat (first | refine blk_drewN ?_ _ | refine blk_drew ?_ | refine blk_alloc ?_ _)); refine blk_far ?_ NB587_616.out _; (with_reducible repeat (first | refine blk_drewN ?_ _ | refine blk_drew ?_ | refine blk_alloc ?_ _)); refine blk_far ?_ NB587_616.out _; (with_reducible repeat (first | refine blk_drewN ?_ _ | refine blk_drew ?_ | refine blk_alloc ?_ _)); exact BK587.out⟩, ⟨by (with_reducible repeat (first | refine blk_drewN ?_ _ | refine blk_drew ?_ | refine blk_alloc ?_ _)); refine blk_far ?_ NB601_616.out _; (with_reducible repeat (first | refine blk_drewN ?_ _ | refine blk_drew ?_ | refine blk_alloc ?_ _)); refine blk_far ?_ NB601_616.out _; (with_reducible repeat (first | refine blk_drewN ?_ _ | refine blk_drew ?_ | refine blk_alloc ?_ _)); refine blk_far ?_ NB601_616.out _; (with_reducible repeat (first | refine blk_drewN ?_ _ | refine blk_drew ?_ | refine blk_alloc ?_ _)); exact BK601.out⟩, ⟨by (with_reducible repeat (first | refine blk_drewN ?_ _ | refine blk_drew ?_ | refine blk_alloc ?_ _)); refine blk_far ?_ NB606_616.out _; (with_reducible repeat (first | refine blk_drewN ?_ _ | refine blk_drew ?_ | refine blk_alloc ?_ _)); refine blk_far ?_ NB606_616.out _; (with_reducible repeat (first | refine blk_drewN ?_ _ | refine blk_drew ?_ | refine blk_alloc ?_ _)); refine blk_far ?_ NB606_616.out _; (with_reducible repeat (first | refine blk_drewN ?_ _ | refine blk_drew ?_ | refine blk_alloc ?_ _)); exact BK606.out⟩, ⟨by (with_reducible repeat (first | refine blk_drewN ?_ _ | refine blk_drew ?_ | refine blk_alloc ?_ _)); refine blk_far ?_ NB611_616.out _; (with_reducible repeat (first | refine blk_drewN ?_ _ | refine blk_drew ?_ | refine blk_alloc ?_ _)); refine blk_far ?_ NB611_616.out _; (with_reducible repeat (first | refine blk_drewN ?_ _ | refine blk_drew ?_ | refine blk_alloc ?_ _)); refine blk_far ?_ NB611_616.out _; (with_reducible repeat (first | refine blk_drewN ?_ _ | refine blk_drew ?_ | refine blk_alloc ?_ _)); exact BK611.out⟩, ⟨by (with_reducible repeat (first | refine blk_drewN ?_ _ | refine blk_drew ?_ | refine blk_alloc ?_ _)); refine blk_put (cs := #[.string t612, .string t613, .int .i64 0]) ?_ 2 _ rfl; (with_reducible repeat (first | refine blk_drewN ?_ _ | refine blk_drew ?_ | refine blk_alloc ?_ _)); refine blk_put (cs := #[.string t612, .string (⟨#[]⟩ : ByteArray), .int .i64 0]) ?_ 1 _ rfl; (with_reducible repeat (first | refine blk_drewN ?_ _ | refine blk_drew ?_ | refine blk_alloc ?_ _)); refine blk_put (cs := #[.string (⟨#[]⟩ : ByteArray), .string (⟨#[]⟩ : ByteArray), .int .i64 0]) ?_ 0 _ rfl; (with_reducible repeat (first | refine blk_drewN ?_ _ | refine blk_drew ?_ | refine blk_alloc ?_ _)); exact BK616.out⟩, ⟨by repeat (first | (with_reducible first | exact HB.out | apply below_alloc | apply pw_below_drewN | apply below_drew1 | refine below_set ?_ GE587.out | refine below_set ?_ GE601.out | refine below_set ?_ GE606.out | refine below_set ?_ GE611.out | refine below_set ?_ GE616.out) | exact HB.out)⟩⟩
                    · replace c160 := Bool.eq_false_iff.mpr c160
                      subst c160
                      have H1 : (changeoverlaw23_KvoneKeeps.j1 kj3 l0 t592 true a1_0 a1_1 a1_2 a1_3 a1_4 a1_5 a1_6) = some r := by rw [if_neg (show ¬ (false = true) by decide)] at H; exact H
                      clear H
                      have H := H1
                      clear H1
                      have H' := Aside0.mk H
                      clear H
                      have hnb208 := NB587_601.out
                      have hnc208 := NB601_587.out
                      have hnb209 := NB587_606.out
                      have hnc209 := NB606_587.out
                      have hnb210 := NB587_611.out
                      have hnc210 := NB611_587.out
                      have hnb211 := NB587_616.out
                      have hnc211 := NB616_587.out
                      have hcz212_0 : w45.cell? ⟨gb587, 0, none⟩ = some (.int .i64 a1_0) := (blk_cell BK587.out 0).trans rfl
                      have hcz212_1 : w45.cell? ⟨gb587, 1, none⟩ = some (.int .i64 a1_1) := (blk_cell BK587.out 1).trans rfl
                      have hcz212_2 : w45.cell? ⟨gb587, 2, none⟩ = some (.int .i64 a1_2) := (blk_cell BK587.out 2).trans rfl
                      have hcz212_3 : w45.cell? ⟨gb587, 3, none⟩ = some (.string a1_3) := (blk_cell BK587.out 3).trans rfl
                      have hcz212_4 : w45.cell? ⟨gb587, 4, none⟩ = some (.string a1_4) := (blk_cell BK587.out 4).trans rfl
                      have hcz212_5 : w45.cell? ⟨gb587, 5, none⟩ = some (.string a1_5) := (blk_cell BK587.out 5).trans rfl
                      have hcz212_6 : w45.cell? ⟨gb587, 6, none⟩ = some (.int .i64 a1_6) := (blk_cell BK587.out 6).trans rfl
                      have hfz212_0 := blk_frozen BK587.out 0
                      have hfz212_1 := blk_frozen BK587.out 1
                      have hfz212_2 := blk_frozen BK587.out 2
                      have hfz212_3 := blk_frozen BK587.out 3
                      have hfz212_4 := blk_frozen BK587.out 4
                      have hfz212_5 := blk_frozen BK587.out 5
                      have hfz212_6 := blk_frozen BK587.out 6
                      have hnb213 := NB611_601.out
                      have hnc213 := NB601_611.out
                      have hnb214 := NB611_606.out
                      have hnc214 := NB606_611.out
                      have hnb215 := NB611_616.out
                      have hnc215 := NB616_611.out
                      have hcz216_0 : w45.cell? ⟨gb611, 0, none⟩ = some (.string t607) := (blk_cell BK611.out 0).trans rfl
                      have hcz216_1 : w45.cell? ⟨gb611, 1, none⟩ = some (.string t608) := (blk_cell BK611.out 1).trans rfl
                      have hcz216_2 : w45.cell? ⟨gb611, 2, none⟩ = some (.int .i64 t609) := (blk_cell BK611.out 2).trans rfl
                      have hfz216_0 := blk_frozen BK611.out 0
                      have hfz216_1 := blk_frozen BK611.out 1
                      have hfz216_2 := blk_frozen BK611.out 2
                      have hnb217 := NB616_601.out
                      have hnc217 := NB601_616.out
                      have hnb218 := NB616_606.out
                      have hnc218 := NB606_616.out
                      have hcz219_0 : w45.cell? ⟨gb616, 0, none⟩ = some (.string (⟨#[]⟩ : ByteArray)) := (blk_cell BK616.out 0).trans rfl
                      have hcz219_1 : w45.cell? ⟨gb616, 1, none⟩ = some (.string (⟨#[]⟩ : ByteArray)) := (blk_cell BK616.out 1).trans rfl
                      have hcz219_2 : w45.cell? ⟨gb616, 2, none⟩ = some (.int .i64 0) := (blk_cell BK616.out 2).trans rfl
                      have hfz219_0 := blk_frozen BK616.out 0
                      have hfz219_1 := blk_frozen BK616.out 1
                      have hfz219_2 := blk_frozen BK616.out 2
                      have hnb220 := NB601_606.out
                      have hnc220 := NB606_601.out
                      have hcz221_0 : w45.cell? ⟨gb601, 0, none⟩ = some (.int .i64 t595) := (blk_cell BK601.out 0).trans rfl
                      have hcz221_1 : w45.cell? ⟨gb601, 1, none⟩ = some (.int .i64 t596) := (blk_cell BK601.out 1).trans rfl
                      have hcz221_2 : w45.cell? ⟨gb601, 2, none⟩ = some (.int .i64 t597) := (blk_cell BK601.out 2).trans rfl
                      have hcz221_3 : w45.cell? ⟨gb601, 3, none⟩ = some (.bool t598) := (blk_cell BK601.out 3).trans rfl
                      have hcz221_4 : w45.cell? ⟨gb601, 4, none⟩ = some (.string t599) := (blk_cell BK601.out 4).trans rfl
                      have hcz221_5 : w45.cell? ⟨gb601, 5, none⟩ = some (.int .i64 t600) := (blk_cell BK601.out 5).trans rfl
                      have hfz221_0 := blk_frozen BK601.out 0
                      have hfz221_1 := blk_frozen BK601.out 1
                      have hfz221_2 := blk_frozen BK601.out 2
                      have hfz221_3 := blk_frozen BK601.out 3
                      have hfz221_4 := blk_frozen BK601.out 4
                      have hfz221_5 := blk_frozen BK601.out 5
                      go_wp2
                      go_meet
                      case rel => exact ⟨_, (true), (by first | rfl | (simp; done) | (simp [*]; done)), H', ⟨by have := HJ3.out; first | omega | exact Nat.le_refl _⟩, ⟨by (with_reducible repeat (first | apply Kd.R_alloc | apply Kd.R_drewN | apply Kd.R_drew)); exact Kd.R_mono (Kd.R_far (p := ⟨gb616, 2, none⟩) (Kd.R_far (p := ⟨gb616, 1, none⟩) (Kd.R_far (p := ⟨gb616, 0, none⟩) (Kd.R_mono HO594.out (fun k_ hk => (⟨hk, hk.2⟩ : _ ∧ k_ ≠ gb616))) (fun _ hk => hk.2) (.string t612)) (fun _ hk => hk.2) (.string t613)) (fun _ hk => hk.2) (.int .i64 t614)) (fun _ hk => ⟨hk.1.1.1.2, ⟨hk.1.1.2, hk.1.2⟩⟩)⟩, ⟨by (with_reducible repeat (first | refine blk_drewN ?_ _ | refine blk_drew ?_ | refine blk_alloc ?_ _)); refine blk_far ?_ NB587_616.out _; (with_reducible repeat (first | refine blk_drewN ?_ _ | refine blk_drew ?_ | refine blk_alloc ?_ _)); refine blk_far ?_ NB587_616.out _; (with_reducible repeat (first | refine blk_drewN ?_ _ | refine blk_drew ?_ | refine blk_alloc ?_ _)); refine blk_far ?_ NB587_616.out _; (with_reducible repeat (first | refine blk_drewN ?_ _ | refine blk_drew ?_ | refine blk_alloc ?_ _)); exact BK587.out⟩, ⟨by (with_reducible repeat (first | refine blk_drewN ?_ _ | refine blk_drew ?_ | refine blk_alloc ?_ _)); refine blk_far ?_ NB601_616.out _; (with_reducible repeat (first | refine blk_drewN ?_ _ | refine blk_drew ?_ | refine blk_alloc ?_ _)); refine blk_far ?_ NB601_616.out _; (with_reducible repeat (first | refine blk_drewN ?_ _ | refine blk_drew ?_ | refine blk_alloc ?_ _)); refine blk_far ?_ NB601_616.out _; (with_reducible repeat (first | refine blk_drewN ?_ _ | refine blk_drew ?_ | refine blk_alloc ?_ _)); exact BK601.out⟩, ⟨by (with_reducible repeat (first | refine blk_drewN ?_ _ | refine blk_drew ?_ | refine blk_alloc ?_ _)); refine blk_far ?_ NB606_616.out _; (with_reducible repeat (first | refine blk_drewN ?_ _ | refine blk_drew ?_ | refine blk_alloc ?_ _)); refine blk_far ?_ NB606_616.out _; (with_reducible repeat (first | refine blk_drewN ?_ _ | refine blk_drew ?_ | refine blk_alloc ?_ _)); refine blk_far ?_ NB606_616.out _; (with_reducible repeat (first | refine blk_drewN ?_ _ | refine blk_drew ?_ | refine blk_alloc ?_ _)); exact BK606.out⟩, ⟨by (with_reducible repeat (first | refine blk_drewN ?_ _ | refine blk_drew ?_ | refine blk_alloc ?_ _)); refine blk_far ?_ NB611_616.out _; (with_reducible repeat (first | refine blk_drewN ?_ _ | refine blk_drew ?_ | refine blk_alloc ?_ _)); refine blk_far ?_ NB611_616.out _; (with_reducible repeat (first | refine blk_drewN ?_ _ | refine blk_drew ?_ | refine blk_alloc ?_ _)); refine blk_far ?_ NB611_616.out _; (with_reducible repeat (first | refine blk_drewN ?_ _ | refine blk_drew ?_ | refine blk_alloc ?_ _)); exact BK611.out⟩, ⟨by (with_reducible repeat (first | refine blk_drewN ?_ _ | refine blk_drew ?_ | refine blk_alloc ?_ _)); refine blk_put (cs := #[.string t612, .string t613, .int .i64 0]) ?_ 2 _ rfl; (with_reducible repeat (first | refine blk_drewN ?_ _ | refine blk_drew ?_ | refine blk_alloc ?_ _)); refine blk_put (cs := #[.string t612, .string (⟨#[]⟩ : ByteArray), .int .i64 0]) ?_ 1 _ rfl; (with_reducible repeat (first | refine blk_drewN ?_ _ | refine blk_drew ?_ | refine blk_alloc ?_ _)); refine blk_put (cs := #[.string (⟨#[]⟩ : ByteArray), .string (⟨#[]⟩ : ByteArray), .int .i64 0]) ?_ 0 _ rfl; (with_reducible repeat (first | refine blk_drewN ?_ _ | refine blk_drew ?_ | refine blk_alloc ?_ _)); exact BK616.out⟩, ⟨by repeat (first | (with_reducible first | exact HB.out | apply below_alloc | apply pw_below_drewN | apply below_drew1 | refine below_set ?_ GE587.out | refine below_set ?_ GE601.out | refine below_set ?_ GE606.out | refine below_set ?_ GE611.out | refine below_set ?_ GE616.out) | exact HB.out)⟩⟩
                  · rw [if_neg c159] at H
                    have c159b0 : (t597 == 0) = false := beq_eq_false_iff_ne.mpr c159
                    have c159b1 : (t597 != 0) = true := bne_iff_ne.mpr c159
                    by_cases c222 : a1_0 = 4
                    · rw [if_pos c222] at H
                      have c222b0 : (a1_0 == 4) = true := beq_iff_eq.mpr c222
                      have c222b1 : (a1_0 != 4) = false := bne_eq_false_iff_eq.mpr c222
                      clear c222
                      have H' := Aside0.mk H
                      clear H
                      have hnb223 := NB587_601.out
                      have hnc223 := NB601_587.out
                      have hnb224 := NB587_606.out
                      have hnc224 := NB606_587.out
                      have hnb225 := NB587_611.out
                      have hnc225 := NB611_587.out
                      have hnb226 := NB587_616.out
                      have hnc226 := NB616_587.out
                      have hcz227_0 : w45.cell? ⟨gb587, 0, none⟩ = some (.int .i64 a1_0) := (blk_cell BK587.out 0).trans rfl
                      have hcz227_1 : w45.cell? ⟨gb587, 1, none⟩ = some (.int .i64 a1_1) := (blk_cell BK587.out 1).trans rfl
                      have hcz227_2 : w45.cell? ⟨gb587, 2, none⟩ = some (.int .i64 a1_2) := (blk_cell BK587.out 2).trans rfl
                      have hcz227_3 : w45.cell? ⟨gb587, 3, none⟩ = some (.string a1_3) := (blk_cell BK587.out 3).trans rfl
                      have hcz227_4 : w45.cell? ⟨gb587, 4, none⟩ = some (.string a1_4) := (blk_cell BK587.out 4).trans rfl
                      have hcz227_5 : w45.cell? ⟨gb587, 5, none⟩ = some (.string a1_5) := (blk_cell BK587.out 5).trans rfl
                      have hcz227_6 : w45.cell? ⟨gb587, 6, none⟩ = some (.int .i64 a1_6) := (blk_cell BK587.out 6).trans rfl
                      have hfz227_0 := blk_frozen BK587.out 0
                      have hfz227_1 := blk_frozen BK587.out 1
                      have hfz227_2 := blk_frozen BK587.out 2
                      have hfz227_3 := blk_frozen BK587.out 3
                      have hfz227_4 := blk_frozen BK587.out 4
                      have hfz227_5 := blk_frozen BK587.out 5
                      have hfz227_6 := blk_frozen BK587.out 6
                      have hnb228 := NB611_601.out
                      have hnc228 := NB601_611.out
                      have hnb229 := NB611_606.out
                      have hnc229 := NB606_611.out
                      have hnb230 := NB611_616.out
                      have hnc230 := NB616_611.out
                      have hcz231_0 : w45.cell? ⟨gb611, 0, none⟩ = some (.string t607) := (blk_cell BK611.out 0).trans rfl
                      have hcz231_1 : w45.cell? ⟨gb611, 1, none⟩ = some (.string t608) := (blk_cell BK611.out 1).trans rfl
                      have hcz231_2 : w45.cell? ⟨gb611, 2, none⟩ = some (.int .i64 t609) := (blk_cell BK611.out 2).trans rfl
                      have hfz231_0 := blk_frozen BK611.out 0
                      have hfz231_1 := blk_frozen BK611.out 1
                      have hfz231_2 := blk_frozen BK611.out 2
                      have hnb232 := NB616_601.out
                      have hnc232 := NB601_616.out
                      have hnb233 := NB616_606.out
                      have hnc233 := NB606_616.out
                      have hcz234_0 : w45.cell? ⟨gb616, 0, none⟩ = some (.string (⟨#[]⟩ : ByteArray)) := (blk_cell BK616.out 0).trans rfl
                      have hcz234_1 : w45.cell? ⟨gb616, 1, none⟩ = some (.string (⟨#[]⟩ : ByteArray)) := (blk_cell BK616.out 1).trans rfl
                      have hcz234_2 : w45.cell? ⟨gb616, 2, none⟩ = some (.int .i64 0) := (blk_cell BK616.out 2).trans rfl
                      have hfz234_0 := blk_frozen BK616.out 0
                      have hfz234_1 := blk_frozen BK616.out 1
                      have hfz234_2 := blk_frozen BK616.out 2
                      have hnb235 := NB601_606.out
                      have hnc235 := NB606_601.out
                      have hcz236_0 : w45.cell? ⟨gb601, 0, none⟩ = some (.int .i64 t595) := (blk_cell BK601.out 0).trans rfl
                      have hcz236_1 : w45.cell? ⟨gb601, 1, none⟩ = some (.int .i64 t596) := (blk_cell BK601.out 1).trans rfl
                      have hcz236_2 : w45.cell? ⟨gb601, 2, none⟩ = some (.int .i64 t597) := (blk_cell BK601.out 2).trans rfl
                      have hcz236_3 : w45.cell? ⟨gb601, 3, none⟩ = some (.bool t598) := (blk_cell BK601.out 3).trans rfl
                      have hcz236_4 : w45.cell? ⟨gb601, 4, none⟩ = some (.string t599) := (blk_cell BK601.out 4).trans rfl
                      have hcz236_5 : w45.cell? ⟨gb601, 5, none⟩ = some (.int .i64 t600) := (blk_cell BK601.out 5).trans rfl
                      have hfz236_0 := blk_frozen BK601.out 0
                      have hfz236_1 := blk_frozen BK601.out 1
                      have hfz236_2 := blk_frozen BK601.out 2
                      have hfz236_3 := blk_frozen BK601.out 3
                      have hfz236_4 := blk_frozen BK601.out 4
                      have hfz236_5 := blk_frozen BK601.out 5
                      go_wp2
                      go_meet
                      case rel => exact ⟨_, (t605), (by first | rfl | (simp; done) | (simp [*]; done)), H', ⟨by have := HJ3.out; first | omega | exact Nat.le_refl _⟩, ⟨by (with_reducible repeat (first | apply Kd.R_alloc | apply Kd.R_drewN | apply Kd.R_drew)); exact Kd.R_mono (Kd.R_far (p := ⟨gb616, 2, none⟩) (Kd.R_far (p := ⟨gb616, 1, none⟩) (Kd.R_far (p := ⟨gb616, 0, none⟩) (Kd.R_mono HO594.out (fun k_ hk => (⟨hk, hk.2⟩ : _ ∧ k_ ≠ gb616))) (fun _ hk => hk.2) (.string t612)) (fun _ hk => hk.2) (.string t613)) (fun _ hk => hk.2) (.int .i64 t614)) (fun _ hk => ⟨hk.1.1.1.2, ⟨hk.1.1.2, hk.1.2⟩⟩)⟩, ⟨by (with_reducible repeat (first | refine blk_drewN ?_ _ | refine blk_drew ?_ | refine blk_alloc ?_ _)); refine blk_far ?_ NB587_616.out _; (with_reducible repeat (first | refine blk_drewN ?_ _ | refine blk_drew ?_ | refine blk_alloc ?_ _)); refine blk_far ?_ NB587_616.out _; (with_reducible repeat (first | refine blk_drewN ?_ _ | refine blk_drew ?_ | refine blk_alloc ?_ _)); refine blk_far ?_ NB587_616.out _; (with_reducible repeat (first | refine blk_drewN ?_ _ | refine blk_drew ?_ | refine blk_alloc ?_ _)); exact BK587.out⟩, ⟨by (with_reducible repeat (first | refine blk_drewN ?_ _ | refine blk_drew ?_ | refine blk_alloc ?_ _)); refine blk_far ?_ NB601_616.out _; (with_reducible repeat (first | refine blk_drewN ?_ _ | refine blk_drew ?_ | refine blk_alloc ?_ _)); refine blk_far ?_ NB601_616.out _; (with_reducible repeat (first | refine blk_drewN ?_ _ | refine blk_drew ?_ | refine blk_alloc ?_ _)); refine blk_far ?_ NB601_616.out _; (with_reducible repeat (first | refine blk_drewN ?_ _ | refine blk_drew ?_ | refine blk_alloc ?_ _)); exact BK601.out⟩, ⟨by (with_reducible repeat (first | refine blk_drewN ?_ _ | refine blk_drew ?_ | refine blk_alloc ?_ _)); refine blk_far ?_ NB606_616.out _; (with_reducible repeat (first | refine blk_drewN ?_ _ | refine blk_drew ?_ | refine blk_alloc ?_ _)); refine blk_far ?_ NB606_616.out _; (with_reducible repeat (first | refine blk_drewN ?_ _ | refine blk_drew ?_ | refine blk_alloc ?_ _)); refine blk_far ?_ NB606_616.out _; (with_reducible repeat (first | refine blk_drewN ?_ _ | refine blk_drew ?_ | refine blk_alloc ?_ _)); exact BK606.out⟩, ⟨by (with_reducible repeat (first | refine blk_drewN ?_ _ | refine blk_drew ?_ | refine blk_alloc ?_ _)); refine blk_far ?_ NB611_616.out _; (with_reducible repeat (first | refine blk_drewN ?_ _ | refine blk_drew ?_ | refine blk_alloc ?_ _)); refine blk_far ?_ NB611_616.out _; (with_reducible repeat (first | refine blk_drewN ?_ _ | refine blk_drew ?_ | refine blk_alloc ?_ _)); refine blk_far ?_ NB611_616.out _; (with_reducible repeat (first | refine blk_drewN ?_ _ | refine blk_drew ?_ | refine blk_alloc ?_ _)); exact BK611.out⟩, ⟨by (with_reducible repeat (first | refine blk_drewN ?_ _ | refine blk_drew ?_ | refine blk_alloc ?_ _)); refine blk_put (cs := #[.string t612, .string t613, .int .i64 0]) ?_ 2 _ rfl; (with_reducible repeat (first | refine blk_drewN ?_ _ | refine blk_drew ?_ | refine blk_alloc ?_ _)); refine blk_put (cs := #[.string t612, .string (⟨#[]⟩ : ByteArray), .int .i64 0]) ?_ 1 _ rfl; (with_reducible repeat (first | refine blk_drewN ?_ _ | refine blk_drew ?_ | refine blk_alloc ?_ _)); refine blk_put (cs := #[.string (⟨#[]⟩ : ByteArray), .string (⟨#[]⟩ : ByteArray), .int .i64 0]) ?_ 0 _ rfl; (with_reducible repeat (first | refine blk_drewN ?_ _ | refine blk_drew ?_ | refine blk_alloc ?_ _)); exact BK616.out⟩, ⟨by repeat (first | (with_reducible first | exact HB.out | apply below_alloc | apply pw_below_drewN | apply below_drew1 | refine below_set ?_ GE587.out | refine below_set ?_ GE601.out | refine below_set ?_ GE606.out | refine below_set ?_ GE611.out | refine below_set ?_ GE616.out) | exact HB.out)⟩⟩
                    · rw [if_neg c222] at H
                      have c222b0 : (a1_0 == 4) = false := beq_eq_false_iff_ne.mpr c222
                      have c222b1 : (a1_0 != 4) = true := bne_iff_ne.mpr c222
                      have H' := Aside0.mk H
                      clear H
                      have hnb237 := NB587_601.out
                      have hnc237 := NB601_587.out
                      have hnb238 := NB587_606.out
                      have hnc238 := NB606_587.out
                      have hnb239 := NB587_611.out
                      have hnc239 := NB611_587.out
                      have hnb240 := NB587_616.out
                      have hnc240 := NB616_587.out
                      have hcz241_0 : w45.cell? ⟨gb587, 0, none⟩ = some (.int .i64 a1_0) := (blk_cell BK587.out 0).trans rfl
                      have hcz241_1 : w45.cell? ⟨gb587, 1, none⟩ = some (.int .i64 a1_1) := (blk_cell BK587.out 1).trans rfl
                      have hcz241_2 : w45.cell? ⟨gb587, 2, none⟩ = some (.int .i64 a1_2) := (blk_cell BK587.out 2).trans rfl
                      have hcz241_3 : w45.cell? ⟨gb587, 3, none⟩ = some (.string a1_3) := (blk_cell BK587.out 3).trans rfl
                      have hcz241_4 : w45.cell? ⟨gb587, 4, none⟩ = some (.string a1_4) := (blk_cell BK587.out 4).trans rfl
                      have hcz241_5 : w45.cell? ⟨gb587, 5, none⟩ = some (.string a1_5) := (blk_cell BK587.out 5).trans rfl
                      have hcz241_6 : w45.cell? ⟨gb587, 6, none⟩ = some (.int .i64 a1_6) := (blk_cell BK587.out 6).trans rfl
                      have hfz241_0 := blk_frozen BK587.out 0
                      have hfz241_1 := blk_frozen BK587.out 1
                      have hfz241_2 := blk_frozen BK587.out 2
                      have hfz241_3 := blk_frozen BK587.out 3
                      have hfz241_4 := blk_frozen BK587.out 4
                      have hfz241_5 := blk_frozen BK587.out 5
                      have hfz241_6 := blk_frozen BK587.out 6
                      have hnb242 := NB611_601.out
                      have hnc242 := NB601_611.out
                      have hnb243 := NB611_606.out
                      have hnc243 := NB606_611.out
                      have hnb244 := NB611_616.out
                      have hnc244 := NB616_611.out
                      have hcz245_0 : w45.cell? ⟨gb611, 0, none⟩ = some (.string t607) := (blk_cell BK611.out 0).trans rfl
                      have hcz245_1 : w45.cell? ⟨gb611, 1, none⟩ = some (.string t608) := (blk_cell BK611.out 1).trans rfl
                      have hcz245_2 : w45.cell? ⟨gb611, 2, none⟩ = some (.int .i64 t609) := (blk_cell BK611.out 2).trans rfl
                      have hfz245_0 := blk_frozen BK611.out 0
                      have hfz245_1 := blk_frozen BK611.out 1
                      have hfz245_2 := blk_frozen BK611.out 2
                      have hnb246 := NB616_601.out
                      have hnc246 := NB601_616.out
                      have hnb247 := NB616_606.out
                      have hnc247 := NB606_616.out
                      have hcz248_0 : w45.cell? ⟨gb616, 0, none⟩ = some (.string (⟨#[]⟩ : ByteArray)) := (blk_cell BK616.out 0).trans rfl
                      have hcz248_1 : w45.cell? ⟨gb616, 1, none⟩ = some (.string (⟨#[]⟩ : ByteArray)) := (blk_cell BK616.out 1).trans rfl
                      have hcz248_2 : w45.cell? ⟨gb616, 2, none⟩ = some (.int .i64 0) := (blk_cell BK616.out 2).trans rfl
                      have hfz248_0 := blk_frozen BK616.out 0
                      have hfz248_1 := blk_frozen BK616.out 1
                      have hfz248_2 := blk_frozen BK616.out 2
                      have hnb249 := NB601_606.out
                      have hnc249 := NB606_601.out
                      have hcz250_0 : w45.cell? ⟨gb601, 0, none⟩ = some (.int .i64 t595) := (blk_cell BK601.out 0).trans rfl
                      have hcz250_1 : w45.cell? ⟨gb601, 1, none⟩ = some (.int .i64 t596) := (blk_cell BK601.out 1).trans rfl
                      have hcz250_2 : w45.cell? ⟨gb601, 2, none⟩ = some (.int .i64 t597) := (blk_cell BK601.out 2).trans rfl
                      have hcz250_3 : w45.cell? ⟨gb601, 3, none⟩ = some (.bool t598) := (blk_cell BK601.out 3).trans rfl
                      have hcz250_4 : w45.cell? ⟨gb601, 4, none⟩ = some (.string t599) := (blk_cell BK601.out 4).trans rfl
                      have hcz250_5 : w45.cell? ⟨gb601, 5, none⟩ = some (.int .i64 t600) := (blk_cell BK601.out 5).trans rfl
                      have hfz250_0 := blk_frozen BK601.out 0
                      have hfz250_1 := blk_frozen BK601.out 1
                      have hfz250_2 := blk_frozen BK601.out 2
                      have hfz250_3 := blk_frozen BK601.out 3
                      have hfz250_4 := blk_frozen BK601.out 4
                      have hfz250_5 := blk_frozen BK601.out 5
                      go_wp2
                      go_meet
                      case rel => exact ⟨_, (false), (by first | rfl | (simp; done) | (simp [*]; done)), H', ⟨by have := HJ3.out; first | omega | exact Nat.le_refl _⟩, ⟨by (with_reducible repeat (first | apply Kd.R_alloc | apply Kd.R_drewN | apply Kd.R_drew)); exact Kd.R_mono (Kd.R_far (p := ⟨gb616, 2, none⟩) (Kd.R_far (p := ⟨gb616, 1, none⟩) (Kd.R_far (p := ⟨gb616, 0, none⟩) (Kd.R_mono HO594.out (fun k_ hk => (⟨hk, hk.2⟩ : _ ∧ k_ ≠ gb616))) (fun _ hk => hk.2) (.string t612)) (fun _ hk => hk.2) (.string t613)) (fun _ hk => hk.2) (.int .i64 t614)) (fun _ hk => ⟨hk.1.1.1.2, ⟨hk.1.1.2, hk.1.2⟩⟩)⟩, ⟨by (with_reducible repeat (first | refine blk_drewN ?_ _ | refine blk_drew ?_ | refine blk_alloc ?_ _)); refine blk_far ?_ NB587_616.out _; (with_reducible repeat (first | refine blk_drewN ?_ _ | refine blk_drew ?_ | refine blk_alloc ?_ _)); refine blk_far ?_ NB587_616.out _; (with_reducible repeat (first | refine blk_drewN ?_ _ | refine blk_drew ?_ | refine blk_alloc ?_ _)); refine blk_far ?_ NB587_616.out _; (with_reducible repeat (first | refine blk_drewN ?_ _ | refine blk_drew ?_ | refine blk_alloc ?_ _)); exact BK587.out⟩, ⟨by (with_reducible repeat (first | refine blk_drewN ?_ _ | refine blk_drew ?_ | refine blk_alloc ?_ _)); refine blk_far ?_ NB601_616.out _; (with_reducible repeat (first | refine blk_drewN ?_ _ | refine blk_drew ?_ | refine blk_alloc ?_ _)); refine blk_far ?_ NB601_616.out _; (with_reducible repeat (first | refine blk_drewN ?_ _ | refine blk_drew ?_ | refine blk_alloc ?_ _)); refine blk_far ?_ NB601_616.out _; (with_reducible repeat (first | refine blk_drewN ?_ _ | refine blk_drew ?_ | refine blk_alloc ?_ _)); exact BK601.out⟩, ⟨by (with_reducible repeat (first | refine blk_drewN ?_ _ | refine blk_drew ?_ | refine blk_alloc ?_ _)); refine blk_far ?_ NB606_616.out _; (with_reducible repeat (first | refine blk_drewN ?_ _ | refine blk_drew ?_ | refine blk_alloc ?_ _)); refine blk_far ?_ NB606_616.out _; (with_reducible repeat (first | refine blk_drewN ?_ _ | refine blk_drew ?_ | refine blk_alloc ?_ _)); refine blk_far ?_ NB606_616.out _; (with_reducible repeat (first | refine blk_drewN ?_ _ | refine blk_drew ?_ | refine blk_alloc ?_ _)); exact BK606.out⟩, ⟨by (with_reducible repeat (first | refine blk_drewN ?_ _ | refine blk_drew ?_ | refine blk_alloc ?_ _)); refine blk_far ?_ NB611_616.out _; (with_reducible repeat (first | refine blk_drewN ?_ _ | refine blk_drew ?_ | refine blk_alloc ?_ _)); refine blk_far ?_ NB611_616.out _; (with_reducible repeat (first | refine blk_drewN ?_ _ | refine blk_drew ?_ | refine blk_alloc ?_ _)); refine blk_far ?_ NB611_616.out _; (with_reducible repeat (first | refine blk_drewN ?_ _ | refine blk_drew ?_ | refine blk_alloc ?_ _)); exact BK611.out⟩, ⟨by (with_reducible repeat (first | refine blk_drewN ?_ _ | refine blk_drew ?_ | refine blk_alloc ?_ _)); refine blk_put (cs := #[.string t612, .string t613, .int .i64 0]) ?_ 2 _ rfl; (with_reducible repeat (first | refine blk_drewN ?_ _ | refine blk_drew ?_ | refine blk_alloc ?_ _)); refine blk_put (cs := #[.string t612, .string (⟨#[]⟩ : ByteArray), .int .i64 0]) ?_ 1 _ rfl; (with_reducible repeat (first | refine blk_drewN ?_ _ | refine blk_drew ?_ | refine blk_alloc ?_ _)); refine blk_put (cs := #[.string (⟨#[]⟩ : ByteArray), .string (⟨#[]⟩ : ByteArray), .int .i64 0]) ?_ 0 _ rfl; (with_reducible repeat (first | refine blk_drewN ?_ _ | refine blk_drew ?_ | refine blk_alloc ?_ _)); exact BK616.out⟩, ⟨by repeat (first | (with_reducible first | exact HB.out | apply below_alloc | apply pw_below_drewN | apply below_drew1 | refine below_set ?_ GE587.out | refine below_set ?_ GE601.out | refine below_set ?_ GE606.out | refine below_set ?_ GE611.out | refine below_set ?_ GE616.out) | exact HB.out)⟩⟩
                · rw [if_neg c158] at H
                  have c158b0 : (a1_0 == 2) = false := beq_eq_false_iff_ne.mpr c158
                  have c158b1 : (a1_0 != 2) = true := bne_iff_ne.mpr c158
                  by_cases c251 : a1_0 = 4
                  · rw [if_pos c251] at H
                    have c251b0 : (a1_0 == 4) = true := beq_iff_eq.mpr c251
                    have c251b1 : (a1_0 != 4) = false := bne_eq_false_iff_eq.mpr c251
                    clear c251
                    have H' := Aside0.mk H
                    clear H
                    have hnb252 := NB587_601.out
                    have hnc252 := NB601_587.out
                    have hnb253 := NB587_606.out
                    have hnc253 := NB606_587.out
                    have hnb254 := NB587_611.out
                    have hnc254 := NB611_587.out
                    have hnb255 := NB587_616.out
                    have hnc255 := NB616_587.out
                    have hcz256_0 : w45.cell? ⟨gb587, 0, none⟩ = some (.int .i64 a1_0) := (blk_cell BK587.out 0).trans rfl
                    have hcz256_1 : w45.cell? ⟨gb587, 1, none⟩ = some (.int .i64 a1_1) := (blk_cell BK587.out 1).trans rfl
                    have hcz256_2 : w45.cell? ⟨gb587, 2, none⟩ = some (.int .i64 a1_2) := (blk_cell BK587.out 2).trans rfl
                    have hcz256_3 : w45.cell? ⟨gb587, 3, none⟩ = some (.string a1_3) := (blk_cell BK587.out 3).trans rfl
                    have hcz256_4 : w45.cell? ⟨gb587, 4, none⟩ = some (.string a1_4) := (blk_cell BK587.out 4).trans rfl
                    have hcz256_5 : w45.cell? ⟨gb587, 5, none⟩ = some (.string a1_5) := (blk_cell BK587.out 5).trans rfl
                    have hcz256_6 : w45.cell? ⟨gb587, 6, none⟩ = some (.int .i64 a1_6) := (blk_cell BK587.out 6).trans rfl
                    have hfz256_0 := blk_frozen BK587.out 0
                    have hfz256_1 := blk_frozen BK587.out 1
                    have hfz256_2 := blk_frozen BK587.out 2
                    have hfz256_3 := blk_frozen BK587.out 3
                    have hfz256_4 := blk_frozen BK587.out 4
                    have hfz256_5 := blk_frozen BK587.out 5
                    have hfz256_6 := blk_frozen BK587.out 6
                    have hnb257 := NB611_601.out
                    have hnc257 := NB601_611.out
                    have hnb258 := NB611_606.out
                    have hnc258 := NB606_611.out
                    have hnb259 := NB611_616.out
                    have hnc259 := NB616_611.out
                    have hcz260_0 : w45.cell? ⟨gb611, 0, none⟩ = some (.string t607) := (blk_cell BK611.out 0).trans rfl
                    have hcz260_1 : w45.cell? ⟨gb611, 1, none⟩ = some (.string t608) := (blk_cell BK611.out 1).trans rfl
                    have hcz260_2 : w45.cell? ⟨gb611, 2, none⟩ = some (.int .i64 t609) := (blk_cell BK611.out 2).trans rfl
                    have hfz260_0 := blk_frozen BK611.out 0
                    have hfz260_1 := blk_frozen BK611.out 1
                    have hfz260_2 := blk_frozen BK611.out 2
                    have hnb261 := NB616_601.out
                    have hnc261 := NB601_616.out
                    have hnb262 := NB616_606.out
                    have hnc262 := NB606_616.out
                    have hcz263_0 : w45.cell? ⟨gb616, 0, none⟩ = some (.string (⟨#[]⟩ : ByteArray)) := (blk_cell BK616.out 0).trans rfl
                    have hcz263_1 : w45.cell? ⟨gb616, 1, none⟩ = some (.string (⟨#[]⟩ : ByteArray)) := (blk_cell BK616.out 1).trans rfl
                    have hcz263_2 : w45.cell? ⟨gb616, 2, none⟩ = some (.int .i64 0) := (blk_cell BK616.out 2).trans rfl
                    have hfz263_0 := blk_frozen BK616.out 0
                    have hfz263_1 := blk_frozen BK616.out 1
                    have hfz263_2 := blk_frozen BK616.out 2
                    go_wp2
                    go_meet
                    case rel => exact ⟨_, (t605), (by first | rfl | (simp; done) | (simp [*]; done)), H', ⟨by have := HJ3.out; first | omega | exact Nat.le_refl _⟩, ⟨by (with_reducible repeat (first | apply Kd.R_alloc | apply Kd.R_drewN | apply Kd.R_drew)); exact Kd.R_mono (Kd.R_far (p := ⟨gb616, 2, none⟩) (Kd.R_far (p := ⟨gb616, 1, none⟩) (Kd.R_far (p := ⟨gb616, 0, none⟩) (Kd.R_mono HO594.out (fun k_ hk => (⟨hk, hk.2⟩ : _ ∧ k_ ≠ gb616))) (fun _ hk => hk.2) (.string t612)) (fun _ hk => hk.2) (.string t613)) (fun _ hk => hk.2) (.int .i64 t614)) (fun _ hk => ⟨hk.1.1.1.2, ⟨hk.1.1.2, hk.1.2⟩⟩)⟩, ⟨by (with_reducible repeat (first | refine blk_drewN ?_ _ | refine blk_drew ?_ | refine blk_alloc ?_ _)); refine blk_far ?_ NB587_616.out _; (with_reducible repeat (first | refine blk_drewN ?_ _ | refine blk_drew ?_ | refine blk_alloc ?_ _)); refine blk_far ?_ NB587_616.out _; (with_reducible repeat (first | refine blk_drewN ?_ _ | refine blk_drew ?_ | refine blk_alloc ?_ _)); refine blk_far ?_ NB587_616.out _; (with_reducible repeat (first | refine blk_drewN ?_ _ | refine blk_drew ?_ | refine blk_alloc ?_ _)); exact BK587.out⟩, ⟨by (with_reducible repeat (first | refine blk_drewN ?_ _ | refine blk_drew ?_ | refine blk_alloc ?_ _)); refine blk_far ?_ NB601_616.out _; (with_reducible repeat (first | refine blk_drewN ?_ _ | refine blk_drew ?_ | refine blk_alloc ?_ _)); refine blk_far ?_ NB601_616.out _; (with_reducible repeat (first | refine blk_drewN ?_ _ | refine blk_drew ?_ | refine blk_alloc ?_ _)); refine blk_far ?_ NB601_616.out _; (with_reducible repeat (first | refine blk_drewN ?_ _ | refine blk_drew ?_ | refine blk_alloc ?_ _)); exact BK601.out⟩, ⟨by (with_reducible repeat (first | refine blk_drewN ?_ _ | refine blk_drew ?_ | refine blk_alloc ?_ _)); refine blk_far ?_ NB606_616.out _; (with_reducible repeat (first | refine blk_drewN ?_ _ | refine blk_drew ?_ | refine blk_alloc ?_ _)); refine blk_far ?_ NB606_616.out _; (with_reducible repeat (first | refine blk_drewN ?_ _ | refine blk_drew ?_ | refine blk_alloc ?_ _)); refine blk_far ?_ NB606_616.out _; (with_reducible repeat (first | refine blk_drewN ?_ _ | refine blk_drew ?_ | refine blk_alloc ?_ _)); exact BK606.out⟩, ⟨by (with_reducible repeat (first | refine blk_drewN ?_ _ | refine blk_drew ?_ | refine blk_alloc ?_ _)); refine blk_far ?_ NB611_616.out _; (with_reducible repeat (first | refine blk_drewN ?_ _ | refine blk_drew ?_ | refine blk_alloc ?_ _)); refine blk_far ?_ NB611_616.out _; (with_reducible repeat (first | refine blk_drewN ?_ _ | refine blk_drew ?_ | refine blk_alloc ?_ _)); refine blk_far ?_ NB611_616.out _; (with_reducible repeat (first | refine blk_drewN ?_ _ | refine blk_drew ?_ | refine blk_alloc ?_ _)); exact BK611.out⟩, ⟨by (with_reducible repeat (first | refine blk_drewN ?_ _ | refine blk_drew ?_ | refine blk_alloc ?_ _)); refine blk_put (cs := #[.string t612, .string t613, .int .i64 0]) ?_ 2 _ rfl; (with_reducible repeat (first | refine blk_drewN ?_ _ | refine blk_drew ?_ | refine blk_alloc ?_ _)); refine blk_put (cs := #[.string t612, .string (⟨#[]⟩ : ByteArray), .int .i64 0]) ?_ 1 _ rfl; (with_reducible repeat (first | refine blk_drewN ?_ _ | refine blk_drew ?_ | refine blk_alloc ?_ _)); refine blk_put (cs := #[.string (⟨#[]⟩ : ByteArray), .string (⟨#[]⟩ : ByteArray), .int .i64 0]) ?_ 0 _ rfl; (with_reducible repeat (first | refine blk_drewN ?_ _ | refine blk_drew ?_ | refine blk_alloc ?_ _)); exact BK616.out⟩, ⟨by repeat (first | (with_reducible first | exact HB.out | apply below_alloc | apply pw_below_drewN | apply below_drew1 | refine below_set ?_ GE587.out | refine below_set ?_ GE601.out | refine below_set ?_ GE606.out | refine below_set ?_ GE611.out | refine below_set ?_ GE616.out) | exact HB.out)⟩⟩
                  · rw [if_neg c251] at H
                    have c251b0 : (a1_0 == 4) = false := beq_eq_false_iff_ne.mpr c251
                    have c251b1 : (a1_0 != 4) = true := bne_iff_ne.mpr c251
                    have H' := Aside0.mk H
                    clear H
                    have hnb264 := NB587_601.out
                    have hnc264 := NB601_587.out
                    have hnb265 := NB587_606.out
                    have hnc265 := NB606_587.out
                    have hnb266 := NB587_611.out
                    have hnc266 := NB611_587.out
                    have hnb267 := NB587_616.out
                    have hnc267 := NB616_587.out
                    have hcz268_0 : w45.cell? ⟨gb587, 0, none⟩ = some (.int .i64 a1_0) := (blk_cell BK587.out 0).trans rfl
                    have hcz268_1 : w45.cell? ⟨gb587, 1, none⟩ = some (.int .i64 a1_1) := (blk_cell BK587.out 1).trans rfl
                    have hcz268_2 : w45.cell? ⟨gb587, 2, none⟩ = some (.int .i64 a1_2) := (blk_cell BK587.out 2).trans rfl
                    have hcz268_3 : w45.cell? ⟨gb587, 3, none⟩ = some (.string a1_3) := (blk_cell BK587.out 3).trans rfl
                    have hcz268_4 : w45.cell? ⟨gb587, 4, none⟩ = some (.string a1_4) := (blk_cell BK587.out 4).trans rfl
                    have hcz268_5 : w45.cell? ⟨gb587, 5, none⟩ = some (.string a1_5) := (blk_cell BK587.out 5).trans rfl
                    have hcz268_6 : w45.cell? ⟨gb587, 6, none⟩ = some (.int .i64 a1_6) := (blk_cell BK587.out 6).trans rfl
                    have hfz268_0 := blk_frozen BK587.out 0
                    have hfz268_1 := blk_frozen BK587.out 1
                    have hfz268_2 := blk_frozen BK587.out 2
                    have hfz268_3 := blk_frozen BK587.out 3
                    have hfz268_4 := blk_frozen BK587.out 4
                    have hfz268_5 := blk_frozen BK587.out 5
                    have hfz268_6 := blk_frozen BK587.out 6
                    have hnb269 := NB611_601.out
                    have hnc269 := NB601_611.out
                    have hnb270 := NB611_606.out
                    have hnc270 := NB606_611.out
                    have hnb271 := NB611_616.out
                    have hnc271 := NB616_611.out
                    have hcz272_0 : w45.cell? ⟨gb611, 0, none⟩ = some (.string t607) := (blk_cell BK611.out 0).trans rfl
                    have hcz272_1 : w45.cell? ⟨gb611, 1, none⟩ = some (.string t608) := (blk_cell BK611.out 1).trans rfl
                    have hcz272_2 : w45.cell? ⟨gb611, 2, none⟩ = some (.int .i64 t609) := (blk_cell BK611.out 2).trans rfl
                    have hfz272_0 := blk_frozen BK611.out 0
                    have hfz272_1 := blk_frozen BK611.out 1
                    have hfz272_2 := blk_frozen BK611.out 2
                    have hnb273 := NB616_601.out
                    have hnc273 := NB601_616.out
                    have hnb274 := NB616_606.out
                    have hnc274 := NB606_616.out
                    have hcz275_0 : w45.cell? ⟨gb616, 0, none⟩ = some (.string (⟨#[]⟩ : ByteArray)) := (blk_cell BK616.out 0).trans rfl
                    have hcz275_1 : w45.cell? ⟨gb616, 1, none⟩ = some (.string (⟨#[]⟩ : ByteArray)) := (blk_cell BK616.out 1).trans rfl
                    have hcz275_2 : w45.cell? ⟨gb616, 2, none⟩ = some (.int .i64 0) := (blk_cell BK616.out 2).trans rfl
                    have hfz275_0 := blk_frozen BK616.out 0
                    have hfz275_1 := blk_frozen BK616.out 1
                    have hfz275_2 := blk_frozen BK616.out 2
                    go_wp2
                    go_meet
                    case rel => exact ⟨_, (false), (by first | rfl | (simp; done) | (simp [*]; done)), H', ⟨by have := HJ3.out; first | omega | exact Nat.le_refl _⟩, ⟨by (with_reducible repeat (first | apply Kd.R_alloc | apply Kd.R_drewN | apply Kd.R_drew)); exact Kd.R_mono (Kd.R_far (p := ⟨gb616, 2, none⟩) (Kd.R_far (p := ⟨gb616, 1, none⟩) (Kd.R_far (p := ⟨gb616, 0, none⟩) (Kd.R_mono HO594.out (fun k_ hk => (⟨hk, hk.2⟩ : _ ∧ k_ ≠ gb616))) (fun _ hk => hk.2) (.string t612)) (fun _ hk => hk.2) (.string t613)) (fun _ hk => hk.2) (.int .i64 t614)) (fun _ hk => ⟨hk.1.1.1.2, ⟨hk.1.1.2, hk.1.2⟩⟩)⟩, ⟨by (with_reducible repeat (first | refine blk_drewN ?_ _ | refine blk_drew ?_ | refine blk_alloc ?_ _)); refine blk_far ?_ NB587_616.out _; (with_reducible repeat (first | refine blk_drewN ?_ _ | refine blk_drew ?_ | refine blk_alloc ?_ _)); refine blk_far ?_ NB587_616.out _; (with_reducible repeat (first | refine blk_drewN ?_ _ | refine blk_drew ?_ | refine blk_alloc ?_ _)); refine blk_far ?_ NB587_616.out _; (with_reducible repeat (first | refine blk_drewN ?_ _ | refine blk_drew ?_ | refine blk_alloc ?_ _)); exact BK587.out⟩, ⟨by (with_reducible repeat (first | refine blk_drewN ?_ _ | refine blk_drew ?_ | refine blk_alloc ?_ _)); refine blk_far ?_ NB601_616.out _; (with_reducible repeat (first | refine blk_drewN ?_ _ | refine blk_drew ?_ | refine blk_alloc ?_ _)); refine blk_far ?_ NB601_616.out _; (with_reducible repeat (first | refine blk_drewN ?_ _ | refine blk_drew ?_ | refine blk_alloc ?_ _)); refine blk_far ?_ NB601_616.out _; (with_reducible repeat (first | refine blk_drewN ?_ _ | refine blk_drew ?_ | refine blk_alloc ?_ _)); exact BK601.out⟩, ⟨by (with_reducible repeat (first | refine blk_drewN ?_ _ | refine blk_drew ?_ | refine blk_alloc ?_ _)); refine blk_far ?_ NB606_616.out _; (with_reducible repeat (first | refine blk_drewN ?_ _ | refine blk_drew ?_ | refine blk_alloc ?_ _)); refine blk_far ?_ NB606_616.out _; (with_reducible repeat (first | refine blk_drewN ?_ _ | refine blk_drew ?_ | refine blk_alloc ?_ _)); refine blk_far ?_ NB606_616.out _; (with_reducible repeat (first | refine blk_drewN ?_ _ | refine blk_drew ?_ | refine blk_alloc ?_ _)); exact BK606.out⟩, ⟨by (with_reducible repeat (first | refine blk_drewN ?_ _ | refine blk_drew ?_ | refine blk_alloc ?_ _)); refine blk_far ?_ NB611_616.out _; (with_reducible repeat (first | refine blk_drewN ?_ _ | refine blk_drew ?_ | refine blk_alloc ?_ _)); refine blk_far ?_ NB611_616.out _; (with_reducible repeat (first | refine blk_drewN ?_ _ | refine blk_drew ?_ | refine blk_alloc ?_ _)); refine blk_far ?_ NB611_616.out _; (with_reducible repeat (first | refine blk_drewN ?_ _ | refine blk_drew ?_ | refine blk_alloc ?_ _)); exact BK611.out⟩, ⟨by (with_reducible repeat (first | refine blk_drewN ?_ _ | refine blk_drew ?_ | refine blk_alloc ?_ _)); refine blk_put (cs := #[.string t612, .string t613, .int .i64 0]) ?_ 2 _ rfl; (with_reducible repeat (first | refine blk_drewN ?_ _ | refine blk_drew ?_ | refine blk_alloc ?_ _)); refine blk_put (cs := #[.string t612, .string (⟨#[]⟩ : ByteArray), .int .i64 0]) ?_ 1 _ rfl; (with_reducible repeat (first | refine blk_drewN ?_ _ | refine blk_drew ?_ | refine blk_alloc ?_ _)); refine blk_put (cs := #[.string (⟨#[]⟩ : ByteArray), .string (⟨#[]⟩ : ByteArray), .int .i64 0]) ?_ 0 _ rfl; (with_reducible repeat (first | refine blk_drewN ?_ _ | refine blk_drew ?_ | refine blk_alloc ?_ _)); exact BK616.out⟩, ⟨by repeat (first | (with_reducible first | exact HB.out | apply below_alloc | apply pw_below_drewN | apply below_drew1 | refine below_set ?_ GE587.out | refine below_set ?_ GE601.out | refine below_set ?_ GE606.out | refine below_set ?_ GE611.out | refine below_set ?_ GE616.out) | exact HB.out)⟩⟩
        case rest =>
          clear HC25
          try clear c1
          try clear c2
          try clear p2
          try clear c14
          try clear c15
          try clear c16
          try clear c17
          try clear c18
          try clear c19
          try clear c20
          try clear c21
          try clear c22
          try clear c23
          try clear c24
          try clear c25
          try clear c26
          try clear c27
          try clear c145
          try clear c145b0
          try clear c145b1
          try clear c145b2
          try clear c151
          try clear c152
          try clear c153
          try clear c155
          try clear c156
          try clear c158
          try clear c158b0
          try clear c158b1
          try clear c159
          try clear c159b0
          try clear c159b1
          try clear c160
          try clear c161
          try clear c161b0
          try clear c161b1
          try clear c162
          try clear c162b0
          try clear c162b1
          try clear c163
          try clear c164
          try clear c165
          try clear c166
          try clear c168
          try clear c169
          try clear c170
          try clear c172
          try clear c173
          try clear c175
          try clear c178
          try clear c179
          try clear c180
          try clear c181
          try clear c183
          try clear c184
          try clear c185
          try clear c187
          try clear c188
          try clear c190
          try clear c193
          try clear c194
          try clear c195
          try clear c196
          try clear c198
          try clear c199
          try clear c200
          try clear c202
          try clear c203
          try clear c205
          try clear c208
          try clear c209
          try clear c210
          try clear c211
          try clear c213
          try clear c214
          try clear c215
          try clear c217
          try clear c218
          try clear c220
          try clear c222
          try clear c222b0
          try clear c222b1
          try clear c223
          try clear c224
          try clear c225
          try clear c226
          try clear c228
          try clear c229
          try clear c230
          try clear c232
          try clear c233
          try clear c235
          try clear c237
          try clear c238
          try clear c239
          try clear c240
          try clear c242
          try clear c243
          try clear c244
          try clear c246
          try clear c247
          try clear c249
          try clear c251
          try clear c251b0
          try clear c251b1
          try clear c252
          try clear c253
          try clear c254
          try clear c255
          try clear c257
          try clear c258
          try clear c259
          try clear c261
          try clear c262
          try clear c264
          try clear c265
          try clear c266
          try clear c267
          try clear c269
          try clear c270
          try clear c271
          try clear c273
          try clear c274
          try clear hcz150_0
          try clear hcz150_1
          try clear hcz150_2
          try clear hcz150_3
          try clear hcz150_4
          try clear hcz150_5
          try clear hcz150_6
          try clear hcz154_0
          try clear hcz154_1
          try clear hcz154_2
          try clear hcz157_0
          try clear hcz157_1
          try clear hcz157_2
          try clear hcz167_0
          try clear hcz167_1
          try clear hcz167_2
          try clear hcz167_3
          try clear hcz167_4
          try clear hcz167_5
          try clear hcz167_6
          try clear hcz171_0
          try clear hcz171_1
          try clear hcz171_2
          try clear hcz174_0
          try clear hcz174_1
          try clear hcz174_2
          try clear hcz176_0
          try clear hcz176_1
          try clear hcz176_2
          try clear hcz176_3
          try clear hcz176_4
          try clear hcz176_5
          try clear hcz177_0
          try clear hcz177_1
          try clear hcz177_2
          try clear hcz182_0
          try clear hcz182_1
          try clear hcz182_2
          try clear hcz182_3
          try clear hcz182_4
          try clear hcz182_5
          try clear hcz182_6
          try clear hcz186_0
          try clear hcz186_1
          try clear hcz186_2
          try clear hcz189_0
          try clear hcz189_1
          try clear hcz189_2
          try clear hcz191_0
          try clear hcz191_1
          try clear hcz191_2
          try clear hcz191_3
          try clear hcz191_4
          try clear hcz191_5
          try clear hcz192_0
          try clear hcz192_1
          try clear hcz192_2
          try clear hcz197_0
          try clear hcz197_1
          try clear hcz197_2
          try clear hcz197_3
          try clear hcz197_4
          try clear hcz197_5
          try clear hcz197_6
          try clear hcz201_0
          try clear hcz201_1
          try clear hcz201_2
          try clear hcz204_0
          try clear hcz204_1
          try clear hcz204_2
          try clear hcz206_0
          try clear hcz206_1
          try clear hcz206_2
          try clear hcz206_3
          try clear hcz206_4
          try clear hcz206_5
          try clear hcz207_0
          try clear hcz207_1
          try clear hcz207_2
          try clear hcz212_0
          try clear hcz212_1
          try clear hcz212_2
          try clear hcz212_3
          try clear hcz212_4
          try clear hcz212_5
          try clear hcz212_6
          try clear hcz216_0
          try clear hcz216_1
          try clear hcz216_2
          try clear hcz219_0
          try clear hcz219_1
          try clear hcz219_2
          try clear hcz221_0
          try clear hcz221_1
          try clear hcz221_2
          try clear hcz221_3
          try clear hcz221_4
          try clear hcz221_5
          try clear hcz227_0
          try clear hcz227_1
          try clear hcz227_2
          try clear hcz227_3
          try clear hcz227_4
          try clear hcz227_5
          try clear hcz227_6
          try clear hcz231_0
          try clear hcz231_1
          try clear hcz231_2
          try clear hcz234_0
          try clear hcz234_1
          try clear hcz234_2
          try clear hcz236_0
          try clear hcz236_1
          try clear hcz236_2
          try clear hcz236_3
          try clear hcz236_4
          try clear hcz236_5
          try clear hcz241_0
          try clear hcz241_1
          try clear hcz241_2
          try clear hcz241_3
          try clear hcz241_4
          try clear hcz241_5
          try clear hcz241_6
          try clear hcz245_0
          try clear hcz245_1
          try clear hcz245_2
          try clear hcz248_0
          try clear hcz248_1
          try clear hcz248_2
          try clear hcz250_0
          try clear hcz250_1
          try clear hcz250_2
          try clear hcz250_3
          try clear hcz250_4
          try clear hcz250_5
          try clear hcz256_0
          try clear hcz256_1
          try clear hcz256_2
          try clear hcz256_3
          try clear hcz256_4
          try clear hcz256_5
          try clear hcz256_6
          try clear hcz260_0
          try clear hcz260_1
          try clear hcz260_2
          try clear hcz263_0
          try clear hcz263_1
          try clear hcz263_2
          try clear hcz268_0
          try clear hcz268_1
          try clear hcz268_2
          try clear hcz268_3
          try clear hcz268_4
          try clear hcz268_5
          try clear hcz268_6
          try clear hcz272_0
          try clear hcz272_1
          try clear hcz272_2
          try clear hcz275_0
          try clear hcz275_1
          try clear hcz275_2
          try clear hfz150_0
          try clear hfz150_1
          try clear hfz150_2
          try clear hfz150_3
          try clear hfz150_4
          try clear hfz150_5
          try clear hfz150_6
          try clear hfz154_0
          try clear hfz154_1
          try clear hfz154_2
          try clear hfz157_0
          try clear hfz157_1
          try clear hfz157_2
          try clear hfz167_0
          try clear hfz167_1
          try clear hfz167_2
          try clear hfz167_3
          try clear hfz167_4
          try clear hfz167_5
          try clear hfz167_6
          try clear hfz171_0
          try clear hfz171_1
          try clear hfz171_2
          try clear hfz174_0
          try clear hfz174_1
          try clear hfz174_2
          try clear hfz176_0
          try clear hfz176_1
          try clear hfz176_2
          try clear hfz176_3
          try clear hfz176_4
          try clear hfz176_5
          try clear hfz177_0
          try clear hfz177_1
          try clear hfz177_2
          try clear hfz182_0
          try clear hfz182_1
          try clear hfz182_2
          try clear hfz182_3
          try clear hfz182_4
          try clear hfz182_5
          try clear hfz182_6
          try clear hfz186_0
          try clear hfz186_1
          try clear hfz186_2
          try clear hfz189_0
          try clear hfz189_1
          try clear hfz189_2
          try clear hfz191_0
          try clear hfz191_1
          try clear hfz191_2
          try clear hfz191_3
          try clear hfz191_4
          try clear hfz191_5
          try clear hfz192_0
          try clear hfz192_1
          try clear hfz192_2
          try clear hfz197_0
          try clear hfz197_1
          try clear hfz197_2
          try clear hfz197_3
          try clear hfz197_4
          try clear hfz197_5
          try clear hfz197_6
          try clear hfz201_0
          try clear hfz201_1
          try clear hfz201_2
          try clear hfz204_0
          try clear hfz204_1
          try clear hfz204_2
          try clear hfz206_0
          try clear hfz206_1
          try clear hfz206_2
          try clear hfz206_3
          try clear hfz206_4
          try clear hfz206_5
          try clear hfz207_0
          try clear hfz207_1
          try clear hfz207_2
          try clear hfz212_0
          try clear hfz212_1
          try clear hfz212_2
          try clear hfz212_3
          try clear hfz212_4
          try clear hfz212_5
          try clear hfz212_6
          try clear hfz216_0
          try clear hfz216_1
          try clear hfz216_2
          try clear hfz219_0
          try clear hfz219_1
          try clear hfz219_2
          try clear hfz221_0
          try clear hfz221_1
          try clear hfz221_2
          try clear hfz221_3
          try clear hfz221_4
          try clear hfz221_5
          try clear hfz227_0
          try clear hfz227_1
          try clear hfz227_2
          try clear hfz227_3
          try clear hfz227_4
          try clear hfz227_5
          try clear hfz227_6
          try clear hfz231_0
          try clear hfz231_1
          try clear hfz231_2
          try clear hfz234_0
          try clear hfz234_1
          try clear hfz234_2
          try clear hfz236_0
          try clear hfz236_1
          try clear hfz236_2
          try clear hfz236_3
          try clear hfz236_4
          try clear hfz236_5
          try clear hfz241_0
          try clear hfz241_1
          try clear hfz241_2
          try clear hfz241_3
          try clear hfz241_4
          try clear hfz241_5
          try clear hfz241_6
          try clear hfz245_0
          try clear hfz245_1
          try clear hfz245_2
          try clear hfz248_0
          try clear hfz248_1
          try clear hfz248_2
          try clear hfz250_0
          try clear hfz250_1
          try clear hfz250_2
          try clear hfz250_3
          try clear hfz250_4
          try clear hfz250_5
          try clear hfz256_0
          try clear hfz256_1
          try clear hfz256_2
          try clear hfz256_3
          try clear hfz256_4
          try clear hfz256_5
          try clear hfz256_6
          try clear hfz260_0
          try clear hfz260_1
          try clear hfz260_2
          try clear hfz263_0
          try clear hfz263_1
          try clear hfz263_2
          try clear hfz268_0
          try clear hfz268_1
          try clear hfz268_2
          try clear hfz268_3
          try clear hfz268_4
          try clear hfz268_5
          try clear hfz268_6
          try clear hfz272_0
          try clear hfz272_1
          try clear hfz272_2
          try clear hfz275_0
          try clear hfz275_1
          try clear hfz275_2
          obtain ⟨kq, x100_24, rfl, HA, HJ24, HO_7, BK587, BK601, BK606, BK611, BK616, HB⟩ := hcut
          cases kq with
          | zero => exact absurd HA.out (by simp [changeoverlaw23_KvoneKeeps.j1])
          | succ kj24 =>
            have H := HA.out
            clear HA
            simp only [changeoverlaw23_KvoneKeeps.j1] at H
            by_cases c276 : x100_24 = true
            · subst c276
              have H1 : (some false) = some r := by rw [if_pos rfl] at H; exact H
              clear H
              have H := H1
              clear H1
              obtain rfl := Option.some.inj H
              go_wp2
              go_ret
              exact ⟨by first | rfl | (simp [errW_none, errW_some] <;> rfl) | (simp [*, errW_none, errW_some] <;> rfl), by repeat (first | (with_reducible first | exact HB.out | apply below_alloc | apply pw_below_drewN | apply below_drew1 | refine below_set ?_ GE587.out | refine below_set ?_ GE601.out | refine below_set ?_ GE606.out | refine below_set ?_ GE611.out | refine below_set ?_ GE616.out) | exact HB.out)⟩
            · replace c276 := Bool.eq_false_iff.mpr c276
              subst c276
              have H1 : ((changeoverref23_Check.f kj24 1 l0).bind fun t617 => (if t617 = true then (if a1_0 = 2 then ((changeoverref23_Check.f kj24 1 (([(⟨a1_3, a1_4, 0⟩ : S78)] : List (S78)))).bind fun t621 => (if t621 = true then ((changeoverref23_Check.f kj24 1 t592).bind fun t622 => (if t622 = true then ((changeoverlaw23_awake.f kj24).bind fun t623 => (some t623)) else (some false))) else ((changeoverlaw23_awake.f kj24).bind fun t624 => (some t624)))) else ((changeoverref23_Check.f kj24 1 t592).bind fun t625 => (if t625 = true then ((changeoverlaw23_awake.f kj24).bind fun t626 => (some t626)) else (some false)))) else ((changeoverlaw23_awake.f kj24).bind fun t627 => (some t627)))) = some r := by rw [if_neg (show ¬ (false = true) by decide)] at H; exact H
              clear H
              have H := H1
              clear H1
              replace H := Option.bind_eq_some_iff.mp H
              obtain ⟨t617, A2770, H⟩ := H
              replace H : (if t617 = true then (if a1_0 = 2 then ((changeoverref23_Check.f kj24 1 (([(⟨a1_3, a1_4, 0⟩ : S78)] : List (S78)))).bind fun t621 => (if t621 = true then ((changeoverref23_Check.f kj24 1 t592).bind fun t622 => (if t622 = true then ((changeoverlaw23_awake.f kj24).bind fun t623 => (some t623)) else (some false))) else ((changeoverlaw23_awake.f kj24).bind fun t624 => (some t624)))) else ((changeoverref23_Check.f kj24 1 t592).bind fun t625 => (if t625 = true then ((changeoverlaw23_awake.f kj24).bind fun t626 => (some t626)) else (some false)))) else ((changeoverlaw23_awake.f kj24).bind fun t627 => (some t627))) = some r := H
              have A277 := Aside0.mk A2770
              clear A2770
              by_cases c278 : t617 = true
              · subst c278
                have H1 : (if a1_0 = 2 then ((changeoverref23_Check.f kj24 1 (([(⟨a1_3, a1_4, 0⟩ : S78)] : List (S78)))).bind fun t621 => (if t621 = true then ((changeoverref23_Check.f kj24 1 t592).bind fun t622 => (if t622 = true then ((changeoverlaw23_awake.f kj24).bind fun t623 => (some t623)) else (some false))) else ((changeoverlaw23_awake.f kj24).bind fun t624 => (some t624)))) else ((changeoverref23_Check.f kj24 1 t592).bind fun t625 => (if t625 = true then ((changeoverlaw23_awake.f kj24).bind fun t626 => (some t626)) else (some false)))) = some r := by rw [if_pos rfl] at H; exact H
                clear H
                have H := H1
                clear H1
                by_cases c279 : a1_0 = 2
                · rw [if_pos c279] at H
                  have c279b0 : (a1_0 == 2) = true := beq_iff_eq.mpr c279
                  have c279b1 : (a1_0 != 2) = false := bne_eq_false_iff_eq.mpr c279
                  clear c279
                  obtain ⟨y618, hy618⟩ : ∃ y_ : List (S78), y_ = (([(⟨a1_3, a1_4, 0⟩ : S78)] : List (S78))) := ⟨_, rfl⟩
                  replace H : ((changeoverref23_Check.f kj24 1 y618).bind fun t621 => (if t621 = true then ((changeoverref23_Check.f kj24 1 t592).bind fun t622 => (if t622 = true then ((changeoverlaw23_awake.f kj24).bind fun t623 => (some t623)) else (some false))) else ((changeoverlaw23_awake.f kj24).bind fun t624 => (some t624)))) = some r := by first | (rw [hy618]; with_reducible exact H) | (have H2_ := (Option.bind_some _ _).symm.trans H; rw [hy618]; with_reducible exact H2_) | (have H2_ := (Option.bind_some _ _).symm.trans H; with_reducible exact H2_) | with_reducible exact H | (rw [hy618]; exact H) | exact H
                  have Ny618 := Aside0.mk hy618
                  clear hy618
                  replace H := Option.bind_eq_some_iff.mp H
                  obtain ⟨t621, A2800, H⟩ := H
                  replace H : (if t621 = true then ((changeoverref23_Check.f kj24 1 t592).bind fun t622 => (if t622 = true then ((changeoverlaw23_awake.f kj24).bind fun t623 => (some t623)) else (some false))) else ((changeoverlaw23_awake.f kj24).bind fun t624 => (some t624))) = some r := H
                  have A280 := Aside0.mk A2800
                  clear A2800
                  by_cases c281 : t621 = true
                  · subst c281
                    have H1 : ((changeoverref23_Check.f kj24 1 t592).bind fun t622 => (if t622 = true then ((changeoverlaw23_awake.f kj24).bind fun t623 => (some t623)) else (some false))) = some r := by rw [if_pos rfl] at H; exact H
                    clear H
                    have H := H1
                    clear H1
                    replace H := Option.bind_eq_some_iff.mp H
                    obtain ⟨t622, A2820, H⟩ := H
                    replace H : (if t622 = true then ((changeoverlaw23_awake.f kj24).bind fun t623 => (some t623)) else (some false)) = some r := H
                    have A282 := Aside0.mk A2820
                    clear A2820
                    by_cases c283 : t622 = true
                    · subst c283
                      have H1 : ((changeoverlaw23_awake.f kj24).bind fun t623 => (some t623)) = some r := by rw [if_pos rfl] at H; exact H
                      clear H
                      have H := H1
                      clear H1
                      replace H := Option.bind_eq_some_iff.mp H
                      obtain ⟨t623, A2840, H⟩ := H
                      replace H : (some t623) = some r := H
                      have A284 := Aside0.mk A2840
                      clear A2840
                      obtain rfl := Option.some.inj H
                      go_wp2_with (first | ((with_reducible refine gate_callee (f := 61) rfl ?_); refine goesL_ (some 102) rfl rfl Try.func61 (by kernel_rfl) rfl #[.int .i64 1, .slice A0 l0.length c0] rfl (by (try simp only [List.map_toArray, List.map_cons, List.map_nil]); first | done | rfl | (simp only [List.length_drop, List.length_take]; rfl)) ?_; (with_reducible refine (changeoverref23_Check.calls kj24 1 _ _ l0 true _ ?side1 ?side2 A277.out).mono ?_); (case side1 => repeat (first | exact (Kd.C_below HR0.out HB.out) | (with_reducible refine Kd.C_alloc ?_ _) | (with_reducible refine Kd.C_drewN ?_ _) | (with_reducible refine Kd.C_drew ?_))); (case side2 => exact HC0.out); rintro e w' ⟨rfl, ⟨nd, rfl⟩⟩; refine ⟨_, rfl, ?_⟩; have hnb285 := NB587_601.out; have hnc285 := NB601_587.out; have hnb286 := NB587_606.out; have hnc286 := NB606_587.out; have hnb287 := NB587_611.out; have hnc287 := NB611_587.out; have hnb288 := NB587_616.out; have hnc288 := NB616_587.out; have hcz289_0 : wc.cell? ⟨gb587, 0, none⟩ = some (.int .i64 a1_0) := (blk_cell BK587.out 0).trans rfl; have hcz289_1 : wc.cell? ⟨gb587, 1, none⟩ = some (.int .i64 a1_1) := (blk_cell BK587.out 1).trans rfl; have hcz289_2 : wc.cell? ⟨gb587, 2, none⟩ = some (.int .i64 a1_2) := (blk_cell BK587.out 2).trans rfl; have hcz289_3 : wc.cell? ⟨gb587, 3, none⟩ = some (.string a1_3) := (blk_cell BK587.out 3).trans rfl; have hcz289_4 : wc.cell? ⟨gb587, 4, none⟩ = some (.string a1_4) := (blk_cell BK587.out 4).trans rfl; have hcz289_5 : wc.cell? ⟨gb587, 5, none⟩ = some (.string a1_5) := (blk_cell BK587.out 5).trans rfl; have hcz289_6 : wc.cell? ⟨gb587, 6, none⟩ = some (.int .i64 a1_6) := (blk_cell BK587.out 6).trans rfl; have hfz289_0 := blk_frozen BK587.out 0; have hfz289_1 := blk_frozen BK587.out 1; have hfz289_2 := blk_frozen BK587.out 2; have hfz289_3 := blk_frozen BK587.out 3; have hfz289_4 := blk_frozen BK587.out 4; have hfz289_5 := blk_frozen BK587.out 5; have hfz289_6 := blk_frozen BK587.out 6) | ((with_reducible refine gate_dst (N := 114) rfl ?_); (try (refine gate_guard (by rfl) ?_; dsimp only)); refine Kd.R_lit k78 _ 78 ?hg (N := 114) ?hd (xs := ([(⟨a1_3, a1_4, 0⟩ : S78)] : List (S78))) (inner := [.string a1_3, .string a1_4, .int .i64 0]) (ok := fun _ => True) (okp := fun _ => True) ?hr ?hp (fun _ hk => hk) trivial (Below.refl _ _) (Nat.le_refl _) (by simp) ?_; (case hd => rfl); (case hg => rfl); (case hr => first | (go_simp; done) | (go_simp; rfl)); (case hp => exact (Reps.c3 (show Kd.M k78 _ _ _ (⟨a1_3, a1_4, 0⟩ : S78) [.string a1_3, .string a1_4, .int .i64 0] from (k78_mkM _ _ _ (⟨a1_3, a1_4, 0⟩ : S78) )) (Reps.none _ _))); intro v619 w290 ho291 hb hg_ hnew_; clear hg_ hnew_; (first | rw [← Ny618.out] at ho291 | (simp only [Int.reduceToNat] at ho291; rw [← Ny618.out] at ho291)); have n0_ := Aside0.mk (Kd.R_elder' (by (with_reducible repeat (first | apply Kd.R_alloc | apply Kd.R_drewN | apply Kd.R_drew)); exact HO_7.out) (Kd.R_base ho291) hb); have n1_ := Aside0.mk (Kd.R_lower (Kd.R_newB (Kd.R_newB (Kd.R_newB (Kd.R_new' ho291 (Kd.R_lt (by (with_reducible repeat (first | apply Kd.R_alloc | apply Kd.R_drewN | apply Kd.R_drew)); exact HO_7.out))) (g := gb606) (o := .cells #[.string t602, .string t603, .int .i64 t604] 78 (0, 0)) (by (with_reducible repeat (first | refine blk_drewN ?_ _ | refine blk_drew ?_ | refine blk_alloc ?_ _)); exact BK606.out)) (g := gb611) (o := .cells #[.string t607, .string t608, .int .i64 t609] 78 (0, 0)) (by (with_reducible repeat (first | refine blk_drewN ?_ _ | refine blk_drew ?_ | refine blk_alloc ?_ _)); exact BK611.out)) (g := gb616) (o := .cells #[.string t612, .string t613, .int .i64 t614] 78 (0, 0)) (by (with_reducible repeat (first | refine blk_drewN ?_ _ | refine blk_drew ?_ | refine blk_alloc ?_ _)); exact BK616.out)) (below_size (by repeat (first | (with_reducible first | exact HB.out | apply below_alloc | apply pw_below_drewN | apply below_drew1 | refine below_set ?_ GE587.out | refine below_set ?_ GE601.out | refine below_set ?_ GE606.out | refine below_set ?_ GE611.out | refine below_set ?_ GE616.out) | exact HB.out)))); have n2_ := Aside0.mk (blk_below (g := gb587) (o := .cells #[.int .i64 a1_0, .int .i64 a1_1, .int .i64 a1_2, .string a1_3, .string a1_4, .string a1_5, .int .i64 a1_6] 72 (0, 0)) (by (with_reducible repeat (first | refine blk_drewN ?_ _ | refine blk_drew ?_ | refine blk_alloc ?_ _)); exact BK587.out) hb); have n3_ := Aside0.mk (blk_below (g := gb601) (o := .cells #[.int .i64 t595, .int .i64 t596, .int .i64 t597, .bool t598, .string t599, .int .i64 t600] 60 (0, 0)) (by (with_reducible repeat (first | refine blk_drewN ?_ _ | refine blk_drew ?_ | refine blk_alloc ?_ _)); exact BK601.out) hb); have n4_ := Aside0.mk (blk_below (g := gb606) (o := .cells #[.string t602, .string t603, .int .i64 t604] 78 (0, 0)) (by (with_reducible repeat (first | refine blk_drewN ?_ _ | refine blk_drew ?_ | refine blk_alloc ?_ _)); exact BK606.out) hb); have n5_ := Aside0.mk (blk_below (g := gb611) (o := .cells #[.string t607, .string t608, .int .i64 t609] 78 (0, 0)) (by (with_reducible repeat (first | refine blk_drewN ?_ _ | refine blk_drew ?_ | refine blk_alloc ?_ _)); exact BK611.out) hb); have n6_ := Aside0.mk (blk_below (g := gb616) (o := .cells #[.string t612, .string t613, .int .i64 t614] 78 (0, 0)) (by (with_reducible repeat (first | refine blk_drewN ?_ _ | refine blk_drew ?_ | refine blk_alloc ?_ _)); exact BK616.out) hb); have n7_ := Aside0.mk (below_step (by repeat (first | (with_reducible first | exact HB.out | apply below_alloc | apply pw_below_drewN | apply below_drew1 | refine below_set ?_ GE587.out | refine below_set ?_ GE601.out | refine below_set ?_ GE606.out | refine below_set ?_ GE611.out | refine below_set ?_ GE616.out) | exact HB.out)) hb); clear HO_7; clear BK587; clear BK601; clear BK606; clear BK611; clear BK616; clear HB; have HO_7 := n0_; have HO620 := n1_; have BK587 := n2_; have BK601 := n3_; have BK606 := n4_; have BK611 := n5_; have BK616 := n6_; have HB := n7_; clear n0_ n1_ n2_ n3_ n4_ n5_ n6_ n7_; clear hb ho291; obtain ⟨Ao292, co292, eo292⟩ := Kd.R_slice HO620.out; subst eo292) | (go_at_call 61; (with_reducible refine (changeoverref23_Check.calls kj24 1 _ _ y618 true _ ?side1 ?side2 A280.out).mono ?_); (case side1 => repeat (first | exact (Kd.R_reads' HO620.out).2.2 | (with_reducible refine Kd.C_alloc ?_ _) | (with_reducible refine Kd.C_drewN ?_ _) | (with_reducible refine Kd.C_drew ?_))); (case side2 => exact (Kd.R_reads' HO620.out).2.1); rintro e w' ⟨rfl, ⟨nd, rfl⟩⟩) | (go_at_call 61; (with_reducible refine (changeoverref23_Check.calls kj24 1 _ _ t592 true _ ?side1 ?side2 A282.out).mono ?_); (case side1 => repeat (first | exact (Kd.R_reads' HO_7.out).2.2 | (with_reducible refine Kd.C_alloc ?_ _) | (with_reducible refine Kd.C_drewN ?_ _) | (with_reducible refine Kd.C_drew ?_))); (case side2 => exact (Kd.R_reads' HO_7.out).2.1); rintro e w' ⟨rfl, ⟨nd, rfl⟩⟩) | (go_at_call 58; (with_reducible refine (changeoverlaw23_awake.calls kj24  t623 _ A284.out).mono ?_); rintro e w293 ⟨rfl, hb⟩; have n0_ := Aside0.mk (Kd.R_below (by (with_reducible repeat (first | apply Kd.R_alloc | apply Kd.R_drewN | apply Kd.R_drew)); exact HO_7.out) hb); have n1_ := Aside0.mk (Kd.R_below (by (with_reducible repeat (first | apply Kd.R_alloc | apply Kd.R_drewN | apply Kd.R_drew)); exact HO620.out) hb); have n2_ := Aside0.mk (blk_below (g := gb587) (o := .cells #[.int .i64 a1_0, .int .i64 a1_1, .int .i64 a1_2, .string a1_3, .string a1_4, .string a1_5, .int .i64 a1_6] 72 (0, 0)) (by (with_reducible repeat (first | refine blk_drewN ?_ _ | refine blk_drew ?_ | refine blk_alloc ?_ _)); exact BK587.out) hb); have n3_ := Aside0.mk (blk_below (g := gb601) (o := .cells #[.int .i64 t595, .int .i64 t596, .int .i64 t597, .bool t598, .string t599, .int .i64 t600] 60 (0, 0)) (by (with_reducible repeat (first | refine blk_drewN ?_ _ | refine blk_drew ?_ | refine blk_alloc ?_ _)); exact BK601.out) hb); have n4_ := Aside0.mk (blk_below (g := gb606) (o := .cells #[.string t602, .string t603, .int .i64 t604] 78 (0, 0)) (by (with_reducible repeat (first | refine blk_drewN ?_ _ | refine blk_drew ?_ | refine blk_alloc ?_ _)); exact BK606.out) hb); have n5_ := Aside0.mk (blk_below (g := gb611) (o := .cells #[.string t607, .string t608, .int .i64 t609] 78 (0, 0)) (by (with_reducible repeat (first | refine blk_drewN ?_ _ | refine blk_drew ?_ | refine blk_alloc ?_ _)); exact BK611.out) hb); have n6_ := Aside0.mk (blk_below (g := gb616) (o := .cells #[.string t612, .string t613, .int .i64 t614] 78 (0, 0)) (by (with_reducible repeat (first | refine blk_drewN ?_ _ | refine blk_drew ?_ | refine blk_alloc ?_ _)); exact BK616.out) hb); have n7_ := Aside0.mk (below_step (by repeat (first | (with_reducible first | exact HB.out | apply below_alloc | apply pw_below_drewN | apply below_drew1 | refine below_set ?_ GE587.out | refine below_set ?_ GE601.out | refine below_set ?_ GE606.out | refine below_set ?_ GE611.out | refine below_set ?_ GE616.out) | exact HB.out)) hb); clear HO_7; clear HO620; clear BK587; clear BK601; clear BK606; clear BK611; clear BK616; clear HB; have HO_7 := n0_; have HO620 := n1_; have BK587 := n2_; have BK601 := n3_; have BK606 := n4_; have BK611 := n5_; have BK616 := n6_; have HB := n7_; clear n0_ n1_ n2_ n3_ n4_ n5_ n6_ n7_; (try clear hb); (try clear hb2); (try clear hk); (try clear hi)))
                      go_ret
                      exact ⟨by first | rfl | (simp [errW_none, errW_some] <;> rfl) | (simp [*, errW_none, errW_some] <;> rfl), by repeat (first | (with_reducible first | exact HB.out | apply below_alloc | apply pw_below_drewN | apply below_drew1 | refine below_set ?_ GE587.out | refine below_set ?_ GE601.out | refine below_set ?_ GE606.out | refine below_set ?_ GE611.out | refine below_set ?_ GE616.out) | exact HB.out)⟩
                    · replace c283 := Bool.eq_false_iff.mpr c283
                      subst c283
                      have H1 : (some false) = some r := by rw [if_neg (show ¬ (false = true) by decide)] at H; exact H
                      clear H
                      have H := H1
                      clear H1
                      obtain rfl := Option.some.inj H
                      go_wp2_with (first | ((with_reducible refine gate_callee (f := 61) rfl ?_); refine goesL_ (some 102) rfl rfl Try.func61 (by kernel_rfl) rfl #[.int .i64 1, .slice A0 l0.length c0] rfl (by (try simp only [List.map_toArray, List.map_cons, List.map_nil]); first | done | rfl | (simp only [List.length_drop, List.length_take]; rfl)) ?_; (with_reducible refine (changeoverref23_Check.calls kj24 1 _ _ l0 true _ ?side1 ?side2 A277.out).mono ?_); (case side1 => repeat (first | exact (Kd.C_below HR0.out HB.out) | (with_reducible refine Kd.C_alloc ?_ _) | (with_reducible refine Kd.C_drewN ?_ _) | (with_reducible refine Kd.C_drew ?_))); (case side2 => exact HC0.out); rintro e w' ⟨rfl, ⟨nd, rfl⟩⟩; refine ⟨_, rfl, ?_⟩; have hnb294 := NB587_601.out; have hnc294 := NB601_587.out; have hnb295 := NB587_606.out; have hnc295 := NB606_587.out; have hnb296 := NB587_611.out; have hnc296 := NB611_587.out; have hnb297 := NB587_616.out; have hnc297 := NB616_587.out; have hcz298_0 : wc.cell? ⟨gb587, 0, none⟩ = some (.int .i64 a1_0) := (blk_cell BK587.out 0).trans rfl; have hcz298_1 : wc.cell? ⟨gb587, 1, none⟩ = some (.int .i64 a1_1) := (blk_cell BK587.out 1).trans rfl; have hcz298_2 : wc.cell? ⟨gb587, 2, none⟩ = some (.int .i64 a1_2) := (blk_cell BK587.out 2).trans rfl; have hcz298_3 : wc.cell? ⟨gb587, 3, none⟩ = some (.string a1_3) := (blk_cell BK587.out 3).trans rfl; have hcz298_4 : wc.cell? ⟨gb587, 4, none⟩ = some (.string a1_4) := (blk_cell BK587.out 4).trans rfl; have hcz298_5 : wc.cell? ⟨gb587, 5, none⟩ = some (.string a1_5) := (blk_cell BK587.out 5).trans rfl; have hcz298_6 : wc.cell? ⟨gb587, 6, none⟩ = some (.int .i64 a1_6) := (blk_cell BK587.out 6).trans rfl; have hfz298_0 := blk_frozen BK587.out 0; have hfz298_1 := blk_frozen BK587.out 1; have hfz298_2 := blk_frozen BK587.out 2; have hfz298_3 := blk_frozen BK587.out 3; have hfz298_4 := blk_frozen BK587.out 4; have hfz298_5 := blk_frozen BK587.out 5; have hfz298_6 := blk_frozen BK587.out 6) | ((with_reducible refine gate_dst (N := 114) rfl ?_); (try (refine gate_guard (by rfl) ?_; dsimp only)); refine Kd.R_lit k78 _ 78 ?hg (N := 114) ?hd (xs := ([(⟨a1_3, a1_4, 0⟩ : S78)] : List (S78))) (inner := [.string a1_3, .string a1_4, .int .i64 0]) (ok := fun _ => True) (okp := fun _ => True) ?hr ?hp (fun _ hk => hk) trivial (Below.refl _ _) (Nat.le_refl _) (by simp) ?_; (case hd => rfl); (case hg => rfl); (case hr => first | (go_simp; done) | (go_simp; rfl)); (case hp => exact (Reps.c3 (show Kd.M k78 _ _ _ (⟨a1_3, a1_4, 0⟩ : S78) [.string a1_3, .string a1_4, .int .i64 0] from (k78_mkM _ _ _ (⟨a1_3, a1_4, 0⟩ : S78) )) (Reps.none _ _))); intro v619 w299 ho300 hb hg_ hnew_; clear hg_ hnew_; (first | rw [← Ny618.out] at ho300 | (simp only [Int.reduceToNat] at ho300; rw [← Ny618.out] at ho300)); have n0_ := Aside0.mk (Kd.R_elder' (by (with_reducible repeat (first | apply Kd.R_alloc | apply Kd.R_drewN | apply Kd.R_drew)); exact HO_7.out) (Kd.R_base ho300) hb); have n1_ := Aside0.mk (Kd.R_lower (Kd.R_newB (Kd.R_newB (Kd.R_newB (Kd.R_new' ho300 (Kd.R_lt (by (with_reducible repeat (first | apply Kd.R_alloc | apply Kd.R_drewN | apply Kd.R_drew)); exact HO_7.out))) (g := gb606) (o := .cells #[.string t602, .string t603, .int .i64 t604] 78 (0, 0)) (by (with_reducible repeat (first | refine blk_drewN ?_ _ | refine blk_drew ?_ | refine blk_alloc ?_ _)); exact BK606.out)) (g := gb611) (o := .cells #[.string t607, .string t608, .int .i64 t609] 78 (0, 0)) (by (with_reducible repeat (first | refine blk_drewN ?_ _ | refine blk_drew ?_ | refine blk_alloc ?_ _)); exact BK611.out)) (g := gb616) (o := .cells #[.string t612, .string t613, .int .i64 t614] 78 (0, 0)) (by (with_reducible repeat (first | refine blk_drewN ?_ _ | refine blk_drew ?_ | refine blk_alloc ?_ _)); exact BK616.out)) (below_size (by repeat (first | (with_reducible first | exact HB.out | apply below_alloc | apply pw_below_drewN | apply below_drew1 | refine below_set ?_ GE587.out | refine below_set ?_ GE601.out | refine below_set ?_ GE606.out | refine below_set ?_ GE611.out | refine below_set ?_ GE616.out) | exact HB.out)))); have n2_ := Aside0.mk (blk_below (g := gb587) (o := .cells #[.int .i64 a1_0, .int .i64 a1_1, .int .i64 a1_2, .string a1_3, .string a1_4, .string a1_5, .int .i64 a1_6] 72 (0, 0)) (by (with_reducible repeat (first | refine blk_drewN ?_ _ | refine blk_drew ?_ | refine blk_alloc ?_ _)); exact BK587.out) hb); have n3_ := Aside0.mk (blk_below (g := gb601) (o := .cells #[.int .i64 t595, .int .i64 t596, .int .i64 t597, .bool t598, .string t599, .int .i64 t600] 60 (0, 0)) (by (with_reducible repeat (first | refine blk_drewN ?_ _ | refine blk_drew ?_ | refine blk_alloc ?_ _)); exact BK601.out) hb); have n4_ := Aside0.mk (blk_below (g := gb606) (o := .cells #[.string t602, .string t603, .int .i64 t604] 78 (0, 0)) (by (with_reducible repeat (first | refine blk_drewN ?_ _ | refine blk_drew ?_ | refine blk_alloc ?_ _)); exact BK606.out) hb); have n5_ := Aside0.mk (blk_below (g := gb611) (o := .cells #[.string t607, .string t608, .int .i64 t609] 78 (0, 0)) (by (with_reducible repeat (first | refine blk_drewN ?_ _ | refine blk_drew ?_ | refine blk_alloc ?_ _)); exact BK611.out) hb); have n6_ := Aside0.mk (blk_below (g := gb616) (o := .cells #[.string t612, .string t613, .int .i64 t614] 78 (0, 0)) (by (with_reducible repeat (first | refine blk_drewN ?_ _ | refine blk_drew ?_ | refine blk_alloc ?_ _)); exact BK616.out) hb); have n7_ := Aside0.mk (below_step (by repeat (first | (with_reducible first | exact HB.out | apply below_alloc | apply pw_below_drewN | apply below_drew1 | refine below_set ?_ GE587.out | refine below_set ?_ GE601.out | refine below_set ?_ GE606.out | refine below_set ?_ GE611.out | refine below_set ?_ GE616.out) | exact HB.out)) hb); clear HO_7; clear BK587; clear BK601; clear BK606; clear BK611; clear BK616; clear HB; have HO_7 := n0_; have HO620 := n1_; have BK587 := n2_; have BK601 := n3_; have BK606 := n4_; have BK611 := n5_; have BK616 := n6_; have HB := n7_; clear n0_ n1_ n2_ n3_ n4_ n5_ n6_ n7_; clear hb ho300; obtain ⟨Ao301, co301, eo301⟩ := Kd.R_slice HO620.out; subst eo301) | (go_at_call 61; (with_reducible refine (changeoverref23_Check.calls kj24 1 _ _ y618 true _ ?side1 ?side2 A280.out).mono ?_); (case side1 => repeat (first | exact (Kd.R_reads' HO620.out).2.2 | (with_reducible refine Kd.C_alloc ?_ _) | (with_reducible refine Kd.C_drewN ?_ _) | (with_reducible refine Kd.C_drew ?_))); (case side2 => exact (Kd.R_reads' HO620.out).2.1); rintro e w' ⟨rfl, ⟨nd, rfl⟩⟩) | (go_at_call 61; (with_reducible refine (changeoverref23_Check.calls kj24 1 _ _ t592 false _ ?side1 ?side2 A282.out).mono ?_); (case side1 => repeat (first | exact (Kd.R_reads' HO_7.out).2.2 | (with_reducible refine Kd.C_alloc ?_ _) | (with_reducible refine Kd.C_drewN ?_ _) | (with_reducible refine Kd.C_drew ?_))); (case side2 => exact (Kd.R_reads' HO_7.out).2.1); rintro e w' ⟨rfl, ⟨nd, rfl⟩⟩))
                      go_ret
                      exact ⟨by first | rfl | (simp [errW_none, errW_some] <;> rfl) | (simp [*, errW_none, errW_some] <;> rfl), by repeat (first | (with_reducible first | exact HB.out | apply below_alloc | apply pw_below_drewN | apply below_drew1 | refine below_set ?_ GE587.out | refine below_set ?_ GE601.out | refine below_set ?_ GE606.out | refine below_set ?_ GE611.out | refine below_set ?_ GE616.out) | exact HB.out)⟩
                  · replace c281 := Bool.eq_false_iff.mpr c281
                    subst c281
                    have H1 : ((changeoverlaw23_awake.f kj24).bind fun t624 => (some t624)) = some r := by rw [if_neg (show ¬ (false = true) by decide)] at H; exact H
                    clear H
                    have H := H1
                    clear H1
                    replace H := Option.bind_eq_some_iff.mp H
                    obtain ⟨t624, A3020, H⟩ := H
                    replace H : (some t624) = some r := H
                    have A302 := Aside0.mk A3020
                    clear A3020
                    obtain rfl := Option.some.inj H
                    go_wp2_with (first | ((with_reducible refine gate_callee (f := 61) rfl ?_); refine goesL_ (some 102) rfl rfl Try.func61 (by kernel_rfl) rfl #[.int .i64 1, .slice A0 l0.length c0] rfl (by (try simp only [List.map_toArray, List.map_cons, List.map_nil]); first | done | rfl | (simp only [List.length_drop, List.length_take]; rfl)) ?_; (with_reducible refine (changeoverref23_Check.calls kj24 1 _ _ l0 true _ ?side1 ?side2 A277.out).mono ?_); (case side1 => repeat (first | exact (Kd.C_below HR0.out HB.out) | (with_reducible refine Kd.C_alloc ?_ _) | (with_reducible refine Kd.C_drewN ?_ _) | (with_reducible refine Kd.C_drew ?_))); (case side2 => exact HC0.out); rintro e w' ⟨rfl, ⟨nd, rfl⟩⟩; refine ⟨_, rfl, ?_⟩; have hnb303 := NB587_601.out; have hnc303 := NB601_587.out; have hnb304 := NB587_606.out; have hnc304 := NB606_587.out; have hnb305 := NB587_611.out; have hnc305 := NB611_587.out; have hnb306 := NB587_616.out; have hnc306 := NB616_587.out; have hcz307_0 : wc.cell? ⟨gb587, 0, none⟩ = some (.int .i64 a1_0) := (blk_cell BK587.out 0).trans rfl; have hcz307_1 : wc.cell? ⟨gb587, 1, none⟩ = some (.int .i64 a1_1) := (blk_cell BK587.out 1).trans rfl; have hcz307_2 : wc.cell? ⟨gb587, 2, none⟩ = some (.int .i64 a1_2) := (blk_cell BK587.out 2).trans rfl; have hcz307_3 : wc.cell? ⟨gb587, 3, none⟩ = some (.string a1_3) := (blk_cell BK587.out 3).trans rfl; have hcz307_4 : wc.cell? ⟨gb587, 4, none⟩ = some (.string a1_4) := (blk_cell BK587.out 4).trans rfl; have hcz307_5 : wc.cell? ⟨gb587, 5, none⟩ = some (.string a1_5) := (blk_cell BK587.out 5).trans rfl; have hcz307_6 : wc.cell? ⟨gb587, 6, none⟩ = some (.int .i64 a1_6) := (blk_cell BK587.out 6).trans rfl; have hfz307_0 := blk_frozen BK587.out 0; have hfz307_1 := blk_frozen BK587.out 1; have hfz307_2 := blk_frozen BK587.out 2; have hfz307_3 := blk_frozen BK587.out 3; have hfz307_4 := blk_frozen BK587.out 4; have hfz307_5 := blk_frozen BK587.out 5; have hfz307_6 := blk_frozen BK587.out 6) | ((with_reducible refine gate_dst (N := 114) rfl ?_); (try (refine gate_guard (by rfl) ?_; dsimp only)); refine Kd.R_lit k78 _ 78 ?hg (N := 114) ?hd (xs := ([(⟨a1_3, a1_4, 0⟩ : S78)] : List (S78))) (inner := [.string a1_3, .string a1_4, .int .i64 0]) (ok := fun _ => True) (okp := fun _ => True) ?hr ?hp (fun _ hk => hk) trivial (Below.refl _ _) (Nat.le_refl _) (by simp) ?_; (case hd => rfl); (case hg => rfl); (case hr => first | (go_simp; done) | (go_simp; rfl)); (case hp => exact (Reps.c3 (show Kd.M k78 _ _ _ (⟨a1_3, a1_4, 0⟩ : S78) [.string a1_3, .string a1_4, .int .i64 0] from (k78_mkM _ _ _ (⟨a1_3, a1_4, 0⟩ : S78) )) (Reps.none _ _))); intro v619 w308 ho309 hb hg_ hnew_; clear hg_ hnew_; (first | rw [← Ny618.out] at ho309 | (simp only [Int.reduceToNat] at ho309; rw [← Ny618.out] at ho309)); have n0_ := Aside0.mk (Kd.R_elder' (by (with_reducible repeat (first | apply Kd.R_alloc | apply Kd.R_drewN | apply Kd.R_drew)); exact HO_7.out) (Kd.R_base ho309) hb); have n1_ := Aside0.mk (Kd.R_lower (Kd.R_newB (Kd.R_newB (Kd.R_newB (Kd.R_new' ho309 (Kd.R_lt (by (with_reducible repeat (first | apply Kd.R_alloc | apply Kd.R_drewN | apply Kd.R_drew)); exact HO_7.out))) (g := gb606) (o := .cells #[.string t602, .string t603, .int .i64 t604] 78 (0, 0)) (by (with_reducible repeat (first | refine blk_drewN ?_ _ | refine blk_drew ?_ | refine blk_alloc ?_ _)); exact BK606.out)) (g := gb611) (o := .cells #[.string t607, .string t608, .int .i64 t609] 78 (0, 0)) (by (with_reducible repeat (first | refine blk_drewN ?_ _ | refine blk_drew ?_ | refine blk_alloc ?_ _)); exact BK611.out)) (g := gb616) (o := .cells #[.string t612, .string t613, .int .i64 t614] 78 (0, 0)) (by (with_reducible repeat (first | refine blk_drewN ?_ _ | refine blk_drew ?_ | refine blk_alloc ?_ _)); exact BK616.out)) (below_size (by repeat (first | (with_reducible first | exact HB.out | apply below_alloc | apply pw_below_drewN | apply below_drew1 | refine below_set ?_ GE587.out | refine below_set ?_ GE601.out | refine below_set ?_ GE606.out | refine below_set ?_ GE611.out | refine below_set ?_ GE616.out) | exact HB.out)))); have n2_ := Aside0.mk (blk_below (g := gb587) (o := .cells #[.int .i64 a1_0, .int .i64 a1_1, .int .i64 a1_2, .string a1_3, .string a1_4, .string a1_5, .int .i64 a1_6] 72 (0, 0)) (by (with_reducible repeat (first | refine blk_drewN ?_ _ | refine blk_drew ?_ | refine blk_alloc ?_ _)); exact BK587.out) hb); have n3_ := Aside0.mk (blk_below (g := gb601) (o := .cells #[.int .i64 t595, .int .i64 t596, .int .i64 t597, .bool t598, .string t599, .int .i64 t600] 60 (0, 0)) (by (with_reducible repeat (first | refine blk_drewN ?_ _ | refine blk_drew ?_ | refine blk_alloc ?_ _)); exact BK601.out) hb); have n4_ := Aside0.mk (blk_below (g := gb606) (o := .cells #[.string t602, .string t603, .int .i64 t604] 78 (0, 0)) (by (with_reducible repeat (first | refine blk_drewN ?_ _ | refine blk_drew ?_ | refine blk_alloc ?_ _)); exact BK606.out) hb); have n5_ := Aside0.mk (blk_below (g := gb611) (o := .cells #[.string t607, .string t608, .int .i64 t609] 78 (0, 0)) (by (with_reducible repeat (first | refine blk_drewN ?_ _ | refine blk_drew ?_ | refine blk_alloc ?_ _)); exact BK611.out) hb); have n6_ := Aside0.mk (blk_below (g := gb616) (o := .cells #[.string t612, .string t613, .int .i64 t614] 78 (0, 0)) (by (with_reducible repeat (first | refine blk_drewN ?_ _ | refine blk_drew ?_ | refine blk_alloc ?_ _)); exact BK616.out) hb); have n7_ := Aside0.mk (below_step (by repeat (first | (with_reducible first | exact HB.out | apply below_alloc | apply pw_below_drewN | apply below_drew1 | refine below_set ?_ GE587.out | refine below_set ?_ GE601.out | refine below_set ?_ GE606.out | refine below_set ?_ GE611.out | refine below_set ?_ GE616.out) | exact HB.out)) hb); clear HO_7; clear BK587; clear BK601; clear BK606; clear BK611; clear BK616; clear HB; have HO_7 := n0_; have HO620 := n1_; have BK587 := n2_; have BK601 := n3_; have BK606 := n4_; have BK611 := n5_; have BK616 := n6_; have HB := n7_; clear n0_ n1_ n2_ n3_ n4_ n5_ n6_ n7_; clear hb ho309; obtain ⟨Ao310, co310, eo310⟩ := Kd.R_slice HO620.out; subst eo310) | (go_at_call 61; (with_reducible refine (changeoverref23_Check.calls kj24 1 _ _ y618 false _ ?side1 ?side2 A280.out).mono ?_); (case side1 => repeat (first | exact (Kd.R_reads' HO620.out).2.2 | (with_reducible refine Kd.C_alloc ?_ _) | (with_reducible refine Kd.C_drewN ?_ _) | (with_reducible refine Kd.C_drew ?_))); (case side2 => exact (Kd.R_reads' HO620.out).2.1); rintro e w' ⟨rfl, ⟨nd, rfl⟩⟩) | (go_at_call 58; (with_reducible refine (changeoverlaw23_awake.calls kj24  t624 _ A302.out).mono ?_); rintro e w311 ⟨rfl, hb⟩; have n0_ := Aside0.mk (Kd.R_below (by (with_reducible repeat (first | apply Kd.R_alloc | apply Kd.R_drewN | apply Kd.R_drew)); exact HO_7.out) hb); have n1_ := Aside0.mk (Kd.R_below (by (with_reducible repeat (first | apply Kd.R_alloc | apply Kd.R_drewN | apply Kd.R_drew)); exact HO620.out) hb); have n2_ := Aside0.mk (blk_below (g := gb587) (o := .cells #[.int .i64 a1_0, .int .i64 a1_1, .int .i64 a1_2, .string a1_3, .string a1_4, .string a1_5, .int .i64 a1_6] 72 (0, 0)) (by (with_reducible repeat (first | refine blk_drewN ?_ _ | refine blk_drew ?_ | refine blk_alloc ?_ _)); exact BK587.out) hb); have n3_ := Aside0.mk (blk_below (g := gb601) (o := .cells #[.int .i64 t595, .int .i64 t596, .int .i64 t597, .bool t598, .string t599, .int .i64 t600] 60 (0, 0)) (by (with_reducible repeat (first | refine blk_drewN ?_ _ | refine blk_drew ?_ | refine blk_alloc ?_ _)); exact BK601.out) hb); have n4_ := Aside0.mk (blk_below (g := gb606) (o := .cells #[.string t602, .string t603, .int .i64 t604] 78 (0, 0)) (by (with_reducible repeat (first | refine blk_drewN ?_ _ | refine blk_drew ?_ | refine blk_alloc ?_ _)); exact BK606.out) hb); have n5_ := Aside0.mk (blk_below (g := gb611) (o := .cells #[.string t607, .string t608, .int .i64 t609] 78 (0, 0)) (by (with_reducible repeat (first | refine blk_drewN ?_ _ | refine blk_drew ?_ | refine blk_alloc ?_ _)); exact BK611.out) hb); have n6_ := Aside0.mk (blk_below (g := gb616) (o := .cells #[.string t612, .string t613, .int .i64 t614] 78 (0, 0)) (by (with_reducible repeat (first | refine blk_drewN ?_ _ | refine blk_drew ?_ | refine blk_alloc ?_ _)); exact BK616.out) hb); have n7_ := Aside0.mk (below_step (by repeat (first | (with_reducible first | exact HB.out | apply below_alloc | apply pw_below_drewN | apply below_drew1 | refine below_set ?_ GE587.out | refine below_set ?_ GE601.out | refine below_set ?_ GE606.out | refine below_set ?_ GE611.out | refine below_set ?_ GE616.out) | exact HB.out)) hb); clear HO_7; clear HO620; clear BK587; clear BK601; clear BK606; clear BK611; clear BK616; clear HB; have HO_7 := n0_; have HO620 := n1_; have BK587 := n2_; have BK601 := n3_; have BK606 := n4_; have BK611 := n5_; have BK616 := n6_; have HB := n7_; clear n0_ n1_ n2_ n3_ n4_ n5_ n6_ n7_; (try clear hb); (try clear hb2); (try clear hk); (try clear hi)))
                    go_ret
                    exact ⟨by first | rfl | (simp [errW_none, errW_some] <;> rfl) | (simp [*, errW_none, errW_some] <;> rfl), by repeat (first | (with_reducible first | exact HB.out | apply below_alloc | apply pw_below_drewN | apply below_drew1 | refine below_set ?_ GE587.out | refine below_set ?_ GE601.out | refine below_set ?_ GE606.out | refine below_set ?_ GE611.out | refine below_set ?_ GE616.out) | exact HB.out)⟩
                · rw [if_neg c279] at H
                  have c279b0 : (a1_0 == 2) = false := beq_eq_false_iff_ne.mpr c279
                  have c279b1 : (a1_0 != 2) = true := bne_iff_ne.mpr c279
                  replace H := Option.bind_eq_some_iff.mp H
                  obtain ⟨t625, A3120, H⟩ := H
                  replace H : (if t625 = true then ((changeoverlaw23_awake.f kj24).bind fun t626 => (some t626)) else (some false)) = some r := H
                  have A312 := Aside0.mk A3120
                  clear A3120
                  by_cases c313 : t625 = true
                  · subst c313
                    have H1 : ((changeoverlaw23_awake.f kj24).bind fun t626 => (some t626)) = some r := by rw [if_pos rfl] at H; exact H
                    clear H
                    have H := H1
                    clear H1
                    replace H := Option.bind_eq_some_iff.mp H
                    obtain ⟨t626, A3140, H⟩ := H
                    replace H : (some t626) = some r := H
                    have A314 := Aside0.mk A3140
                    clear A3140
                    obtain rfl := Option.some.inj H
                    go_wp2_with (first | ((with_reducible refine gate_callee (f := 61) rfl ?_); refine goesL_ (some 102) rfl rfl Try.func61 (by kernel_rfl) rfl #[.int .i64 1, .slice A0 l0.length c0] rfl (by (try simp only [List.map_toArray, List.map_cons, List.map_nil]); first | done | rfl | (simp only [List.length_drop, List.length_take]; rfl)) ?_; (with_reducible refine (changeoverref23_Check.calls kj24 1 _ _ l0 true _ ?side1 ?side2 A277.out).mono ?_); (case side1 => repeat (first | exact (Kd.C_below HR0.out HB.out) | (with_reducible refine Kd.C_alloc ?_ _) | (with_reducible refine Kd.C_drewN ?_ _) | (with_reducible refine Kd.C_drew ?_))); (case side2 => exact HC0.out); rintro e w' ⟨rfl, ⟨nd, rfl⟩⟩; refine ⟨_, rfl, ?_⟩; have hnb315 := NB587_601.out; have hnc315 := NB601_587.out; have hnb316 := NB587_606.out; have hnc316 := NB606_587.out; have hnb317 := NB587_611.out; have hnc317 := NB611_587.out; have hnb318 := NB587_616.out; have hnc318 := NB616_587.out; have hcz319_0 : wc.cell? ⟨gb587, 0, none⟩ = some (.int .i64 a1_0) := (blk_cell BK587.out 0).trans rfl; have hcz319_1 : wc.cell? ⟨gb587, 1, none⟩ = some (.int .i64 a1_1) := (blk_cell BK587.out 1).trans rfl; have hcz319_2 : wc.cell? ⟨gb587, 2, none⟩ = some (.int .i64 a1_2) := (blk_cell BK587.out 2).trans rfl; have hcz319_3 : wc.cell? ⟨gb587, 3, none⟩ = some (.string a1_3) := (blk_cell BK587.out 3).trans rfl; have hcz319_4 : wc.cell? ⟨gb587, 4, none⟩ = some (.string a1_4) := (blk_cell BK587.out 4).trans rfl; have hcz319_5 : wc.cell? ⟨gb587, 5, none⟩ = some (.string a1_5) := (blk_cell BK587.out 5).trans rfl; have hcz319_6 : wc.cell? ⟨gb587, 6, none⟩ = some (.int .i64 a1_6) := (blk_cell BK587.out 6).trans rfl; have hfz319_0 := blk_frozen BK587.out 0; have hfz319_1 := blk_frozen BK587.out 1; have hfz319_2 := blk_frozen BK587.out 2; have hfz319_3 := blk_frozen BK587.out 3; have hfz319_4 := blk_frozen BK587.out 4; have hfz319_5 := blk_frozen BK587.out 5; have hfz319_6 := blk_frozen BK587.out 6) | (go_at_call 61; (with_reducible refine (changeoverref23_Check.calls kj24 1 _ _ t592 true _ ?side1 ?side2 A312.out).mono ?_); (case side1 => repeat (first | exact (Kd.R_reads' HO_7.out).2.2 | (with_reducible refine Kd.C_alloc ?_ _) | (with_reducible refine Kd.C_drewN ?_ _) | (with_reducible refine Kd.C_drew ?_))); (case side2 => exact (Kd.R_reads' HO_7.out).2.1); rintro e w' ⟨rfl, ⟨nd, rfl⟩⟩) | (go_at_call 58; (with_reducible refine (changeoverlaw23_awake.calls kj24  t626 _ A314.out).mono ?_); rintro e w320 ⟨rfl, hb⟩; have n0_ := Aside0.mk (Kd.R_below (by (with_reducible repeat (first | apply Kd.R_alloc | apply Kd.R_drewN | apply Kd.R_drew)); exact HO_7.out) hb); have n1_ := Aside0.mk (blk_below (g := gb587) (o := .cells #[.int .i64 a1_0, .int .i64 a1_1, .int .i64 a1_2, .string a1_3, .string a1_4, .string a1_5, .int .i64 a1_6] 72 (0, 0)) (by (with_reducible repeat (first | refine blk_drewN ?_ _ | refine blk_drew ?_ | refine blk_alloc ?_ _)); exact BK587.out) hb); have n2_ := Aside0.mk (blk_below (g := gb601) (o := .cells #[.int .i64 t595, .int .i64 t596, .int .i64 t597, .bool t598, .string t599, .int .i64 t600] 60 (0, 0)) (by (with_reducible repeat (first | refine blk_drewN ?_ _ | refine blk_drew ?_ | refine blk_alloc ?_ _)); exact BK601.out) hb); have n3_ := Aside0.mk (blk_below (g := gb606) (o := .cells #[.string t602, .string t603, .int .i64 t604] 78 (0, 0)) (by (with_reducible repeat (first | refine blk_drewN ?_ _ | refine blk_drew ?_ | refine blk_alloc ?_ _)); exact BK606.out) hb); have n4_ := Aside0.mk (blk_below (g := gb611) (o := .cells #[.string t607, .string t608, .int .i64 t609] 78 (0, 0)) (by (with_reducible repeat (first | refine blk_drewN ?_ _ | refine blk_drew ?_ | refine blk_alloc ?_ _)); exact BK611.out) hb); have n5_ := Aside0.mk (blk_below (g := gb616) (o := .cells #[.string t612, .string t613, .int .i64 t614] 78 (0, 0)) (by (with_reducible repeat (first | refine blk_drewN ?_ _ | refine blk_drew ?_ | refine blk_alloc ?_ _)); exact BK616.out) hb); have n6_ := Aside0.mk (below_step (by repeat (first | (with_reducible first | exact HB.out | apply below_alloc | apply pw_below_drewN | apply below_drew1 | refine below_set ?_ GE587.out | refine below_set ?_ GE601.out | refine below_set ?_ GE606.out | refine below_set ?_ GE611.out | refine below_set ?_ GE616.out) | exact HB.out)) hb); clear HO_7; clear BK587; clear BK601; clear BK606; clear BK611; clear BK616; clear HB; have HO_7 := n0_; have BK587 := n1_; have BK601 := n2_; have BK606 := n3_; have BK611 := n4_; have BK616 := n5_; have HB := n6_; clear n0_ n1_ n2_ n3_ n4_ n5_ n6_; (try clear hb); (try clear hb2); (try clear hk); (try clear hi)))
                    go_ret
                    exact ⟨by first | rfl | (simp [errW_none, errW_some] <;> rfl) | (simp [*, errW_none, errW_some] <;> rfl), by repeat (first | (with_reducible first | exact HB.out | apply below_alloc | apply pw_below_drewN | apply below_drew1 | refine below_set ?_ GE587.out | refine below_set ?_ GE601.out | refine below_set ?_ GE606.out | refine below_set ?_ GE611.out | refine below_set ?_ GE616.out) | exact HB.out)⟩
                  · replace c313 := Bool.eq_false_iff.mpr c313
                    subst c313
                    have H1 : (some false) = some r := by rw [if_neg (show ¬ (false = true) by decide)] at H; exact H
                    clear H
                    have H := H1
                    clear H1
                    obtain rfl := Option.some.inj H
                    go_wp2_with (first | ((with_reducible refine gate_callee (f := 61) rfl ?_); refine goesL_ (some 102) rfl rfl Try.func61 (by kernel_rfl) rfl #[.int .i64 1, .slice A0 l0.length c0] rfl (by (try simp only [List.map_toArray, List.map_cons, List.map_nil]); first | done | rfl | (simp only [List.length_drop, List.length_take]; rfl)) ?_; (with_reducible refine (changeoverref23_Check.calls kj24 1 _ _ l0 true _ ?side1 ?side2 A277.out).mono ?_); (case side1 => repeat (first | exact (Kd.C_below HR0.out HB.out) | (with_reducible refine Kd.C_alloc ?_ _) | (with_reducible refine Kd.C_drewN ?_ _) | (with_reducible refine Kd.C_drew ?_))); (case side2 => exact HC0.out); rintro e w' ⟨rfl, ⟨nd, rfl⟩⟩; refine ⟨_, rfl, ?_⟩; have hnb321 := NB587_601.out; have hnc321 := NB601_587.out; have hnb322 := NB587_606.out; have hnc322 := NB606_587.out; have hnb323 := NB587_611.out; have hnc323 := NB611_587.out; have hnb324 := NB587_616.out; have hnc324 := NB616_587.out; have hcz325_0 : wc.cell? ⟨gb587, 0, none⟩ = some (.int .i64 a1_0) := (blk_cell BK587.out 0).trans rfl; have hcz325_1 : wc.cell? ⟨gb587, 1, none⟩ = some (.int .i64 a1_1) := (blk_cell BK587.out 1).trans rfl; have hcz325_2 : wc.cell? ⟨gb587, 2, none⟩ = some (.int .i64 a1_2) := (blk_cell BK587.out 2).trans rfl; have hcz325_3 : wc.cell? ⟨gb587, 3, none⟩ = some (.string a1_3) := (blk_cell BK587.out 3).trans rfl; have hcz325_4 : wc.cell? ⟨gb587, 4, none⟩ = some (.string a1_4) := (blk_cell BK587.out 4).trans rfl; have hcz325_5 : wc.cell? ⟨gb587, 5, none⟩ = some (.string a1_5) := (blk_cell BK587.out 5).trans rfl; have hcz325_6 : wc.cell? ⟨gb587, 6, none⟩ = some (.int .i64 a1_6) := (blk_cell BK587.out 6).trans rfl; have hfz325_0 := blk_frozen BK587.out 0; have hfz325_1 := blk_frozen BK587.out 1; have hfz325_2 := blk_frozen BK587.out 2; have hfz325_3 := blk_frozen BK587.out 3; have hfz325_4 := blk_frozen BK587.out 4; have hfz325_5 := blk_frozen BK587.out 5; have hfz325_6 := blk_frozen BK587.out 6) | (go_at_call 61; (with_reducible refine (changeoverref23_Check.calls kj24 1 _ _ t592 false _ ?side1 ?side2 A312.out).mono ?_); (case side1 => repeat (first | exact (Kd.R_reads' HO_7.out).2.2 | (with_reducible refine Kd.C_alloc ?_ _) | (with_reducible refine Kd.C_drewN ?_ _) | (with_reducible refine Kd.C_drew ?_))); (case side2 => exact (Kd.R_reads' HO_7.out).2.1); rintro e w' ⟨rfl, ⟨nd, rfl⟩⟩))
                    go_ret
                    exact ⟨by first | rfl | (simp [errW_none, errW_some] <;> rfl) | (simp [*, errW_none, errW_some] <;> rfl), by repeat (first | (with_reducible first | exact HB.out | apply below_alloc | apply pw_below_drewN | apply below_drew1 | refine below_set ?_ GE587.out | refine below_set ?_ GE601.out | refine below_set ?_ GE606.out | refine below_set ?_ GE611.out | refine below_set ?_ GE616.out) | exact HB.out)⟩
              · replace c278 := Bool.eq_false_iff.mpr c278
                subst c278
                have H1 : ((changeoverlaw23_awake.f kj24).bind fun t627 => (some t627)) = some r := by rw [if_neg (show ¬ (false = true) by decide)] at H; exact H
                clear H
                have H := H1
                clear H1
                replace H := Option.bind_eq_some_iff.mp H
                obtain ⟨t627, A3260, H⟩ := H
                replace H : (some t627) = some r := H
                have A326 := Aside0.mk A3260
                clear A3260
                obtain rfl := Option.some.inj H
                go_wp2_with (first | ((with_reducible refine gate_callee (f := 61) rfl ?_); refine goesL_ (some 102) rfl rfl Try.func61 (by kernel_rfl) rfl #[.int .i64 1, .slice A0 l0.length c0] rfl (by (try simp only [List.map_toArray, List.map_cons, List.map_nil]); first | done | rfl | (simp only [List.length_drop, List.length_take]; rfl)) ?_; (with_reducible refine (changeoverref23_Check.calls kj24 1 _ _ l0 false _ ?side1 ?side2 A277.out).mono ?_); (case side1 => repeat (first | exact (Kd.C_below HR0.out HB.out) | (with_reducible refine Kd.C_alloc ?_ _) | (with_reducible refine Kd.C_drewN ?_ _) | (with_reducible refine Kd.C_drew ?_))); (case side2 => exact HC0.out); rintro e w' ⟨rfl, ⟨nd, rfl⟩⟩; refine ⟨_, rfl, ?_⟩) | (go_at_call 58; (with_reducible refine (changeoverlaw23_awake.calls kj24  t627 _ A326.out).mono ?_); rintro e w327 ⟨rfl, hb⟩; have n0_ := Aside0.mk (Kd.R_below (by (with_reducible repeat (first | apply Kd.R_alloc | apply Kd.R_drewN | apply Kd.R_drew)); exact HO_7.out) hb); have n1_ := Aside0.mk (blk_below (g := gb587) (o := .cells #[.int .i64 a1_0, .int .i64 a1_1, .int .i64 a1_2, .string a1_3, .string a1_4, .string a1_5, .int .i64 a1_6] 72 (0, 0)) (by (with_reducible repeat (first | refine blk_drewN ?_ _ | refine blk_drew ?_ | refine blk_alloc ?_ _)); exact BK587.out) hb); have n2_ := Aside0.mk (blk_below (g := gb601) (o := .cells #[.int .i64 t595, .int .i64 t596, .int .i64 t597, .bool t598, .string t599, .int .i64 t600] 60 (0, 0)) (by (with_reducible repeat (first | refine blk_drewN ?_ _ | refine blk_drew ?_ | refine blk_alloc ?_ _)); exact BK601.out) hb); have n3_ := Aside0.mk (blk_below (g := gb606) (o := .cells #[.string t602, .string t603, .int .i64 t604] 78 (0, 0)) (by (with_reducible repeat (first | refine blk_drewN ?_ _ | refine blk_drew ?_ | refine blk_alloc ?_ _)); exact BK606.out) hb); have n4_ := Aside0.mk (blk_below (g := gb611) (o := .cells #[.string t607, .string t608, .int .i64 t609] 78 (0, 0)) (by (with_reducible repeat (first | refine blk_drewN ?_ _ | refine blk_drew ?_ | refine blk_alloc ?_ _)); exact BK611.out) hb); have n5_ := Aside0.mk (blk_below (g := gb616) (o := .cells #[.string t612, .string t613, .int .i64 t614] 78 (0, 0)) (by (with_reducible repeat (first | refine blk_drewN ?_ _ | refine blk_drew ?_ | refine blk_alloc ?_ _)); exact BK616.out) hb); have n6_ := Aside0.mk (below_step (by repeat (first | (with_reducible first | exact HB.out | apply below_alloc | apply pw_below_drewN | apply below_drew1 | refine below_set ?_ GE587.out | refine below_set ?_ GE601.out | refine below_set ?_ GE606.out | refine below_set ?_ GE611.out | refine below_set ?_ GE616.out) | exact HB.out)) hb); clear HO_7; clear BK587; clear BK601; clear BK606; clear BK611; clear BK616; clear HB; have HO_7 := n0_; have BK587 := n1_; have BK601 := n2_; have BK606 := n3_; have BK611 := n4_; have BK616 := n5_; have HB := n6_; clear n0_ n1_ n2_ n3_ n4_ n5_ n6_; (try clear hb); (try clear hb2); (try clear hk); (try clear hi)))
                go_ret
                exact ⟨by first | rfl | (simp [errW_none, errW_some] <;> rfl) | (simp [*, errW_none, errW_some] <;> rfl), by repeat (first | (with_reducible first | exact HB.out | apply below_alloc | apply pw_below_drewN | apply below_drew1 | refine below_set ?_ GE587.out | refine below_set ?_ GE601.out | refine below_set ?_ GE606.out | refine below_set ?_ GE611.out | refine below_set ?_ GE616.out) | exact HB.out)⟩

end Go.Proofs.Ytalpmbeddldfoaa.PA
