-- A text that a program wrote for this claim (print.py over stand-in bodies, tool/pr.sh).
import Derived.Test.YtalpmbeddldfoaaF0
import Derived.Test.YtalpmbeddldfoaaFEq3
import Derived.Test.YtalpmbeddldfoaaFChangeoverref23Large
import Derived.Test.YtalpmbeddldfoaaFChangeoverref23Check
import Derived.Test.YtalpmbeddldfoaaFChangeoverlaw24Large
import Derived.Test.YtalpmbeddldfoaaFKvtwoDo
import Derived.Test.YtalpmbeddldfoaaFChangeoverlaw24Awake
import Derived.Test.YtalpmbeddldfoaaFChangeoverref23Place
import Derived.Test.YtalpmbeddldfoaaFChangeoverref23Same
import Derived.Test.YtalpmbeddldfoaaHandD
namespace Go.Proofs.Ytalpmbeddldfoaa.PA
open Go.RowKit Go.Proofs.Ytalpmbeddldfoaa.Hand Go.Proofs.YtalpmbeddldfoaaW.PrintWords Go.Proofs.YtalpmbeddldfoaaW.PrintLast Go.Proofs.YtalpmbeddldfoaaW.PrintMore
attribute [local go_sem] max2_int min2_int max_two min_two max_three min_three max_four min_four   -- for this text's walks alone
attribute [local go_sem high] str_leq str_gtr str_geq
set_option linter.unusedVariables false
set_option linter.unusedSimpArgs false

attribute [local go_sem high] eqA78
/-! ### changeoverlaw24_KvtwoCas: function 11 -/
mutual
def changeoverlaw24_KvtwoCas.j0 : Nat → List (S78) → Bool → Int → Int → Int → ByteArray → ByteArray → ByteArray → Int → Option (Bool)
  | 0, _, _, _, _, _, _, _, _, _ => none
  | k + 1, x0, x20, x713000, x713001, x713002, x713003, x713004, x713005, x713006 => if x20 = true then ((changeoverlaw24_awake.f k).bind fun t716 => (some t716)) else ((kvtwo_Do.f k x0 5 x713001 x713002 x713003 x713004 x713005 x713006).bind fun bt717 => ((changeoverref23_Place.f k x0 x713003).bind fun t727 => (if t727 ≥ 0 then (if 0 ≤ t727 then (if t727 < (x0.length : Int) then (changeoverlaw24_KvtwoCas.j1 k x0 bt717.1 t727 (((rd_T78 x0 t727).f1).toList == x713005.toList) 5 x713001 x713002 x713003 x713004 x713005 x713006 bt717.2.1 bt717.2.2.1 bt717.2.2.2.1 bt717.2.2.2.2.1 bt717.2.2.2.2.2.1 bt717.2.2.2.2.2.2) else (none)) else (none)) else (changeoverlaw24_KvtwoCas.j1 k x0 bt717.1 t727 false 5 x713001 x713002 x713003 x713004 x713005 x713006 bt717.2.1 bt717.2.2.1 bt717.2.2.2.1 bt717.2.2.2.2.1 bt717.2.2.2.2.2.1 bt717.2.2.2.2.2.2))))
def changeoverlaw24_KvtwoCas.j1 : Nat → List (S78) → List (S78) → Int → Bool → Int → Int → Int → ByteArray → ByteArray → ByteArray → Int → Int → Int → Int → Bool → ByteArray → Int → Option (Bool)
  | 0, _, _, _, _, _, _, _, _, _, _, _, _, _, _, _, _, _ => none
  | k + 1, x0, x5, x7, x8, x713000, x713001, x713002, x713003, x713004, x713005, x713006, x727000, x727001, x727002, x727003, x727004, x727005 => if ((x727002 == 0) != x8) = true then (changeoverlaw24_KvtwoCas.j2 k x0 x5 x7 x8 true x713000 x713001 x713002 x713003 x713004 x713005 x713006) else (if x8 = true then (changeoverlaw24_KvtwoCas.j2 k x0 x5 x7 x8 ((x5.length : Int) != (x0.length : Int)) x713000 x713001 x713002 x713003 x713004 x713005 x713006) else ((changeoverref23_Same.f k x5 x0).bind fun t729 => (if t729 = true then (changeoverlaw24_KvtwoCas.j2 k x0 x5 x7 x8 ((x5.length : Int) != (x0.length : Int)) x713000 x713001 x713002 x713003 x713004 x713005 x713006) else (changeoverlaw24_KvtwoCas.j2 k x0 x5 x7 x8 true x713000 x713001 x713002 x713003 x713004 x713005 x713006))))
def changeoverlaw24_KvtwoCas.j2 : Nat → List (S78) → List (S78) → Int → Bool → Bool → Int → Int → Int → ByteArray → ByteArray → ByteArray → Int → Option (Bool)
  | 0, _, _, _, _, _, _, _, _, _, _, _, _ => none
  | k + 1, x0, x5, x7, x8, x66, x713000, x713001, x713002, x713003, x713004, x713005, x713006 => if x66 = true then (some false) else (changeoverlaw24_KvtwoCas.l0 k x0 x5 x7 x8 0 x713000 x713001 x713002 x713003 x713004 x713005 x713006)
def changeoverlaw24_KvtwoCas.l0 : Nat → List (S78) → List (S78) → Int → Bool → Int → Int → Int → Int → ByteArray → ByteArray → ByteArray → Int → Option (Bool)
  | 0, _, _, _, _, _, _, _, _, _, _, _, _ => none
  | k + 1, x0, x5, x7, x8, x9, x713000, x713001, x713002, x713003, x713004, x713005, x713006 => if x9 < (x0.length : Int) then (if 0 ≤ x9 then (if x9 < (x5.length : Int) then (if ((rd_T78 x5 x9).f0).toList = ((rd_T78 x0 x9).f0).toList then (if ((rd_T78 x5 x9).f2) < ((rd_T78 x0 x9).f2) then (some false) else (if x9 = x7 then (if x8 = true then (if ((rd_T78 x5 x9).f1).toList = x713004.toList then (changeoverlaw24_KvtwoCas.l0 k x0 x5 x7 x8 (wrap64 (x9 + 1)) x713000 x713001 x713002 x713003 x713004 x713005 x713006) else (some false)) else (changeoverlaw24_KvtwoCas.l0 k x0 x5 x7 x8 (wrap64 (x9 + 1)) x713000 x713001 x713002 x713003 x713004 x713005 x713006)) else (if (!((((rd_T78 x5 x9).f0).toList) == (((rd_T78 x0 x9).f0).toList)) || (!((((rd_T78 x5 x9).f1).toList) == (((rd_T78 x0 x9).f1).toList)) || (!(((rd_T78 x5 x9).f2) == ((rd_T78 x0 x9).f2))))) = true then (some false) else (changeoverlaw24_KvtwoCas.l0 k x0 x5 x7 x8 (wrap64 (x9 + 1)) x713000 x713001 x713002 x713003 x713004 x713005 x713006)))) else (some false)) else (none)) else (none)) else ((changeoverlaw24_awake.f k).bind fun t737 => (some t737))
end
def changeoverlaw24_KvtwoCas.f (k : Nat) (l0 : List (S78)) (a1_0 : Int) (a1_1 : Int) (a1_2 : Int) (a1_3 : ByteArray) (a1_4 : ByteArray) (a1_5 : ByteArray) (a1_6 : Int) : Option (Bool) := (changeoverref23_Large.f k l0).bind fun t713 => (if t713 = true then (changeoverlaw24_KvtwoCas.j0 k l0 true a1_0 a1_1 a1_2 a1_3 a1_4 a1_5 a1_6) else ((changeoverlaw24_large.f a1_0 a1_1 a1_2 a1_3 a1_4 a1_5 a1_6).bind fun t714 => (if t714 = true then (changeoverlaw24_KvtwoCas.j0 k l0 true a1_0 a1_1 a1_2 a1_3 a1_4 a1_5 a1_6) else ((changeoverref23_Check.f k 2 l0).bind fun t715 => (changeoverlaw24_KvtwoCas.j0 k l0 (!t715) a1_0 a1_1 a1_2 a1_3 a1_4 a1_5 a1_6)))))
theorem changeoverlaw24_KvtwoCas.mono_l : ∀ k, (∀ y0 y1 y2 y3 y4 y5 y6 y7 y8, LeO (changeoverlaw24_KvtwoCas.j0 k y0 y1 y2 y3 y4 y5 y6 y7 y8) (changeoverlaw24_KvtwoCas.j0 (k + 1) y0 y1 y2 y3 y4 y5 y6 y7 y8)) ∧ (∀ y0 y1 y2 y3 y4 y5 y6 y7 y8 y9 y10 y11 y12 y13 y14 y15 y16, LeO (changeoverlaw24_KvtwoCas.j1 k y0 y1 y2 y3 y4 y5 y6 y7 y8 y9 y10 y11 y12 y13 y14 y15 y16) (changeoverlaw24_KvtwoCas.j1 (k + 1) y0 y1 y2 y3 y4 y5 y6 y7 y8 y9 y10 y11 y12 y13 y14 y15 y16)) ∧ (∀ y0 y1 y2 y3 y4 y5 y6 y7 y8 y9 y10 y11, LeO (changeoverlaw24_KvtwoCas.j2 k y0 y1 y2 y3 y4 y5 y6 y7 y8 y9 y10 y11) (changeoverlaw24_KvtwoCas.j2 (k + 1) y0 y1 y2 y3 y4 y5 y6 y7 y8 y9 y10 y11)) ∧ (∀ y0 y1 y2 y3 y4 y5 y6 y7 y8 y9 y10 y11, LeO (changeoverlaw24_KvtwoCas.l0 k y0 y1 y2 y3 y4 y5 y6 y7 y8 y9 y10 y11) (changeoverlaw24_KvtwoCas.l0 (k + 1) y0 y1 y2 y3 y4 y5 y6 y7 y8 y9 y10 y11))
  | 0 => ⟨fun _ _ _ _ _ _ _ _ _ r h => by simp [changeoverlaw24_KvtwoCas.j0] at h, fun _ _ _ _ _ _ _ _ _ _ _ _ _ _ _ _ _ r h => by simp [changeoverlaw24_KvtwoCas.j1] at h, fun _ _ _ _ _ _ _ _ _ _ _ _ r h => by simp [changeoverlaw24_KvtwoCas.j2] at h, fun _ _ _ _ _ _ _ _ _ _ _ _ r h => by simp [changeoverlaw24_KvtwoCas.l0] at h⟩
  | k + 1 => by
    obtain ⟨ih0, ih1, ih2, ih3⟩ := changeoverlaw24_KvtwoCas.mono_l k
    refine ⟨?_, ?_, ?_, ?_⟩
    · intro y0 y1 y2 y3 y4 y5 y6 y7 y8
      unfold changeoverlaw24_KvtwoCas.j0
      repeat' first
      | (with_reducible exact ih0 _ _ _ _ _ _ _ _ _)
      | (with_reducible exact ih1 _ _ _ _ _ _ _ _ _ _ _ _ _ _ _ _ _)
      | (with_reducible exact ih2 _ _ _ _ _ _ _ _ _ _ _ _)
      | (with_reducible exact ih3 _ _ _ _ _ _ _ _ _ _ _ _)
      | (with_reducible exact changeoverlaw24_awake.mono _)
      | (with_reducible exact changeoverref23_Check.mono _ _ _)
      | (with_reducible exact changeoverref23_Large.mono _ _)
      | (with_reducible exact changeoverref23_Place.mono _ _ _)
      | (with_reducible exact changeoverref23_Same.mono _ _ _)
      | (with_reducible exact kvtwo_Do.mono _ _ _ _ _ _ _ _ _)
      | (with_reducible exact LeO.refl _)
      | (with_reducible exact LeO.none _)
      | (with_reducible refine LeO.ite ?_ ?_)
      | (with_reducible refine LeO.bind ?_ (fun _ => ?_))
      | exact ih0 _ _ _ _ _ _ _ _ _
      | exact ih1 _ _ _ _ _ _ _ _ _ _ _ _ _ _ _ _ _
      | exact ih2 _ _ _ _ _ _ _ _ _ _ _ _
      | exact ih3 _ _ _ _ _ _ _ _ _ _ _ _
      | exact changeoverlaw24_awake.mono _
      | exact changeoverref23_Check.mono _ _ _
      | exact changeoverref23_Large.mono _ _
      | exact changeoverref23_Place.mono _ _ _
      | exact changeoverref23_Same.mono _ _ _
      | exact kvtwo_Do.mono _ _ _ _ _ _ _ _ _
      | exact LeO.none _
      | refine LeO.ite ?_ ?_
      | refine LeO.bind ?_ (fun _ => ?_)
    · intro y0 y1 y2 y3 y4 y5 y6 y7 y8 y9 y10 y11 y12 y13 y14 y15 y16
      unfold changeoverlaw24_KvtwoCas.j1
      repeat' first
      | (with_reducible exact ih0 _ _ _ _ _ _ _ _ _)
      | (with_reducible exact ih1 _ _ _ _ _ _ _ _ _ _ _ _ _ _ _ _ _)
      | (with_reducible exact ih2 _ _ _ _ _ _ _ _ _ _ _ _)
      | (with_reducible exact ih3 _ _ _ _ _ _ _ _ _ _ _ _)
      | (with_reducible exact changeoverlaw24_awake.mono _)
      | (with_reducible exact changeoverref23_Check.mono _ _ _)
      | (with_reducible exact changeoverref23_Large.mono _ _)
      | (with_reducible exact changeoverref23_Place.mono _ _ _)
      | (with_reducible exact changeoverref23_Same.mono _ _ _)
      | (with_reducible exact kvtwo_Do.mono _ _ _ _ _ _ _ _ _)
      | (with_reducible exact LeO.refl _)
      | (with_reducible exact LeO.none _)
      | (with_reducible refine LeO.ite ?_ ?_)
      | (with_reducible refine LeO.bind ?_ (fun _ => ?_))
      | exact ih0 _ _ _ _ _ _ _ _ _
      | exact ih1 _ _ _ _ _ _ _ _ _ _ _ _ _ _ _ _ _
      | exact ih2 _ _ _ _ _ _ _ _ _ _ _ _
      | exact ih3 _ _ _ _ _ _ _ _ _ _ _ _
      | exact changeoverlaw24_awake.mono _
      | exact changeoverref23_Check.mono _ _ _
      | exact changeoverref23_Large.mono _ _
      | exact changeoverref23_Place.mono _ _ _
      | exact changeoverref23_Same.mono _ _ _
      | exact kvtwo_Do.mono _ _ _ _ _ _ _ _ _
      | exact LeO.none _
      | refine LeO.ite ?_ ?_
      | refine LeO.bind ?_ (fun _ => ?_)
    · intro y0 y1 y2 y3 y4 y5 y6 y7 y8 y9 y10 y11
      unfold changeoverlaw24_KvtwoCas.j2
      repeat' first
      | (with_reducible exact ih0 _ _ _ _ _ _ _ _ _)
      | (with_reducible exact ih1 _ _ _ _ _ _ _ _ _ _ _ _ _ _ _ _ _)
      | (with_reducible exact ih2 _ _ _ _ _ _ _ _ _ _ _ _)
      | (with_reducible exact ih3 _ _ _ _ _ _ _ _ _ _ _ _)
      | (with_reducible exact changeoverlaw24_awake.mono _)
      | (with_reducible exact changeoverref23_Check.mono _ _ _)
      | (with_reducible exact changeoverref23_Large.mono _ _)
      | (with_reducible exact changeoverref23_Place.mono _ _ _)
      | (with_reducible exact changeoverref23_Same.mono _ _ _)
      | (with_reducible exact kvtwo_Do.mono _ _ _ _ _ _ _ _ _)
      | (with_reducible exact LeO.refl _)
      | (with_reducible exact LeO.none _)
      | (with_reducible refine LeO.ite ?_ ?_)
      | (with_reducible refine LeO.bind ?_ (fun _ => ?_))
      | exact ih0 _ _ _ _ _ _ _ _ _
      | exact ih1 _ _ _ _ _ _ _ _ _ _ _ _ _ _ _ _ _
      | exact ih2 _ _ _ _ _ _ _ _ _ _ _ _
      | exact ih3 _ _ _ _ _ _ _ _ _ _ _ _
      | exact changeoverlaw24_awake.mono _
      | exact changeoverref23_Check.mono _ _ _
      | exact changeoverref23_Large.mono _ _
      | exact changeoverref23_Place.mono _ _ _
      | exact changeoverref23_Same.mono _ _ _
      | exact kvtwo_Do.mono _ _ _ _ _ _ _ _ _
      | exact LeO.none _
      | refine LeO.ite ?_ ?_
      | refine LeO.bind ?_ (fun _ => ?_)
    · intro y0 y1 y2 y3 y4 y5 y6 y7 y8 y9 y10 y11
      unfold changeoverlaw24_KvtwoCas.l0
      repeat' first
      | (with_reducible exact ih0 _ _ _ _ _ _ _ _ _)
      | (with_reducible exact ih1 _ _ _ _ _ _ _ _ _ _ _ _ _ _ _ _ _)
      | (with_reducible exact ih2 _ _ _ _ _ _ _ _ _ _ _ _)
      | (with_reducible exact ih3 _ _ _ _ _ _ _ _ _ _ _ _)
      | (with_reducible exact changeoverlaw24_awake.mono _)
      | (with_reducible exact changeoverref23_Check.mono _ _ _)
      | (with_reducible exact changeoverref23_Large.mono _ _)
      | (with_reducible exact changeoverref23_Place.mono _ _ _)
      | (with_reducible exact changeoverref23_Same.mono _ _ _)
      | (with_reducible exact kvtwo_Do.mono _ _ _ _ _ _ _ _ _)
      | (with_reducible exact LeO.refl _)
      | (with_reducible exact LeO.none _)
      | (with_reducible refine LeO.ite ?_ ?_)
      | (with_reducible refine LeO.bind ?_ (fun _ => ?_))
      | exact ih0 _ _ _ _ _ _ _ _ _
      | exact ih1 _ _ _ _ _ _ _ _ _ _ _ _ _ _ _ _ _
      | exact ih2 _ _ _ _ _ _ _ _ _ _ _ _
      | exact ih3 _ _ _ _ _ _ _ _ _ _ _ _
      | exact changeoverlaw24_awake.mono _
      | exact changeoverref23_Check.mono _ _ _
      | exact changeoverref23_Large.mono _ _
      | exact changeoverref23_Place.mono _ _ _
      | exact changeoverref23_Same.mono _ _ _
      | exact kvtwo_Do.mono _ _ _ _ _ _ _ _ _
      | exact LeO.none _
      | refine LeO.ite ?_ ?_
      | refine LeO.bind ?_ (fun _ => ?_)
theorem changeoverlaw24_KvtwoCas.mono : ∀ a0 a1 a2 a3 a4 a5 a6 a7 k, LeO (changeoverlaw24_KvtwoCas.f k a0 a1 a2 a3 a4 a5 a6 a7) (changeoverlaw24_KvtwoCas.f (k + 1) a0 a1 a2 a3 a4 a5 a6 a7) := by
  intro a0 a1 a2 a3 a4 a5 a6 a7 k
  obtain ⟨ih0, ih1, ih2, ih3⟩ := changeoverlaw24_KvtwoCas.mono_l k
  unfold changeoverlaw24_KvtwoCas.f
  repeat' first
      | (with_reducible exact ih0 _ _ _ _ _ _ _ _ _)
      | (with_reducible exact ih1 _ _ _ _ _ _ _ _ _ _ _ _ _ _ _ _ _)
      | (with_reducible exact ih2 _ _ _ _ _ _ _ _ _ _ _ _)
      | (with_reducible exact ih3 _ _ _ _ _ _ _ _ _ _ _ _)
      | (with_reducible exact changeoverlaw24_awake.mono _)
      | (with_reducible exact changeoverref23_Check.mono _ _ _)
      | (with_reducible exact changeoverref23_Large.mono _ _)
      | (with_reducible exact changeoverref23_Place.mono _ _ _)
      | (with_reducible exact changeoverref23_Same.mono _ _ _)
      | (with_reducible exact kvtwo_Do.mono _ _ _ _ _ _ _ _ _)
      | (with_reducible exact LeO.refl _)
      | (with_reducible exact LeO.none _)
      | (with_reducible refine LeO.ite ?_ ?_)
      | (with_reducible refine LeO.bind ?_ (fun _ => ?_))
      | exact ih0 _ _ _ _ _ _ _ _ _
      | exact ih1 _ _ _ _ _ _ _ _ _ _ _ _ _ _ _ _ _
      | exact ih2 _ _ _ _ _ _ _ _ _ _ _ _
      | exact ih3 _ _ _ _ _ _ _ _ _ _ _ _
      | exact changeoverlaw24_awake.mono _
      | exact changeoverref23_Check.mono _ _ _
      | exact changeoverref23_Large.mono _ _
      | exact changeoverref23_Place.mono _ _ _
      | exact changeoverref23_Same.mono _ _ _
      | exact kvtwo_Do.mono _ _ _ _ _ _ _ _ _
      | exact LeO.none _
      | refine LeO.ite ?_ ?_
      | refine LeO.bind ?_ (fun _ => ?_)
set_option maxHeartbeats 8000000 in
set_option maxRecDepth 100000 in
theorem changeoverlaw24_KvtwoCas.calls (k : Nat) (A0 : Option Addr) (c0 : Nat) (l0 : List (S78)) (a1_0 : Int) (a1_1 : Int) (a1_2 : Int) (a1_3 : ByteArray) (a1_4 : ByteArray) (a1_5 : ByteArray) (a1_6 : Int) (r : Bool) (w : World) (hr0 : Kd.C k78 w A0 l0.length l0) (hc0 : l0.length ≤ c0) (h : changeoverlaw24_KvtwoCas.f k l0 a1_0 a1_1 a1_2 a1_3 a1_4 a1_5 a1_6 = some r) :
    Calls Try.prog 11 #[.slice A0 l0.length c0, .agg #[.int .i64 a1_0, .int .i64 a1_1, .int .i64 a1_2, .string a1_3, .string a1_4, .string a1_5, .int .i64 a1_6]] w fun e w' => e = .returned (.bool r) ∧ Below w.heap.size w w' := by
  have hu72 := Try.underlying72
  have hu60 := Try.underlying60
  have hu78 := Try.underlying78
  have HR0 := Aside0.mk hr0
  have HC0 := Aside0.mk hc0
  clear hr0 hc0
  have HB := Aside0.mk (Below.refl w.heap.size w)
  have H : ((changeoverref23_Large.f k l0).bind fun t713 => (if t713 = true then (changeoverlaw24_KvtwoCas.j0 k l0 true a1_0 a1_1 a1_2 a1_3 a1_4 a1_5 a1_6) else ((changeoverlaw24_large.f a1_0 a1_1 a1_2 a1_3 a1_4 a1_5 a1_6).bind fun t714 => (if t714 = true then (changeoverlaw24_KvtwoCas.j0 k l0 true a1_0 a1_1 a1_2 a1_3 a1_4 a1_5 a1_6) else ((changeoverref23_Check.f k 2 l0).bind fun t715 => (changeoverlaw24_KvtwoCas.j0 k l0 (!t715) a1_0 a1_1 a1_2 a1_3 a1_4 a1_5 a1_6)))))) = some r := h
  clear h
  have HC3 := Aside0.mk H
  clear H
  go_enter Try.func11, Try.ntmps11
  go_upto_region 1 with (first | ((with_reducible refine gate_dst (N := 3) rfl ?_); (try (refine gate_guard (by rfl) ?_; dsimp only)); refine box_event ?hg (N := 3) ?hd (cs := #[.int .i64 a1_0, .int .i64 a1_1, .int .i64 a1_2, .string a1_3, .string a1_4, .string a1_5, .int .i64 a1_6]) (t := 72) ?hr ?_; (case hd => rfl); (case hg => rfl); (case hr => first | (go_simp; done) | (go_simp; rfl)); intro gb712 hg w4 hbox hb; have n0_ := Aside0.mk (below_step (by repeat (first | (with_reducible first | exact HB.out | apply below_alloc | apply pw_below_drewN | apply below_drew1) | exact HB.out)) hb); have n1_ := Aside0.mk (hbox); have n2_ := Aside0.mk ((by rw [hg]; exact (below_size (by repeat (first | (with_reducible first | exact HB.out | apply below_alloc | apply pw_below_drewN | apply below_drew1) | exact HB.out))) : w.heap.size ≤ gb712)); have n3_ := Aside0.mk ((by rw [hg]; exact (below_size (by repeat (first | (with_reducible first | exact HB.out | apply below_alloc | apply pw_below_drewN | apply below_drew1) | exact HB.out))) : w.heap.size ≤ gb712)); clear HB; have HB := n0_; have BK712 := n1_; have GW712 := n2_; have GE712 := n3_; clear n0_ n1_ n2_ n3_; clear hb hbox hg))
  repeat (go_quiet (first | ((with_reducible refine gate_dst (N := 3) rfl ?_); (try (refine gate_guard (by rfl) ?_; dsimp only)); refine box_event ?hg (N := 3) ?hd (cs := #[.int .i64 a1_0, .int .i64 a1_1, .int .i64 a1_2, .string a1_3, .string a1_4, .string a1_5, .int .i64 a1_6]) (t := 72) ?hr ?_; (case hd => rfl); (case hg => rfl); (case hr => first | (go_simp; done) | (go_simp; rfl)); intro gb712 hg w4 hbox hb; have n0_ := Aside0.mk (below_step (by repeat (first | (with_reducible first | exact HB.out | apply below_alloc | apply pw_below_drewN | apply below_drew1) | exact HB.out)) hb); have n1_ := Aside0.mk (hbox); have n2_ := Aside0.mk ((by rw [hg]; exact (below_size (by repeat (first | (with_reducible first | exact HB.out | apply below_alloc | apply pw_below_drewN | apply below_drew1) | exact HB.out))) : w.heap.size ≤ gb712)); have n3_ := Aside0.mk ((by rw [hg]; exact (below_size (by repeat (first | (with_reducible first | exact HB.out | apply below_alloc | apply pw_below_drewN | apply below_drew1) | exact HB.out))) : w.heap.size ≤ gb712)); clear HB; have HB := n0_; have BK712 := n1_; have GW712 := n2_; have GE712 := n3_; clear n0_ n1_ n2_ n3_; clear hb hbox hg)); go_upto_region 1 with (first | ((with_reducible refine gate_dst (N := 3) rfl ?_); (try (refine gate_guard (by rfl) ?_; dsimp only)); refine box_event ?hg (N := 3) ?hd (cs := #[.int .i64 a1_0, .int .i64 a1_1, .int .i64 a1_2, .string a1_3, .string a1_4, .string a1_5, .int .i64 a1_6]) (t := 72) ?hr ?_; (case hd => rfl); (case hg => rfl); (case hr => first | (go_simp; done) | (go_simp; rfl)); intro gb712 hg w4 hbox hb; have n0_ := Aside0.mk (below_step (by repeat (first | (with_reducible first | exact HB.out | apply below_alloc | apply pw_below_drewN | apply below_drew1) | exact HB.out)) hb); have n1_ := Aside0.mk (hbox); have n2_ := Aside0.mk ((by rw [hg]; exact (below_size (by repeat (first | (with_reducible first | exact HB.out | apply below_alloc | apply pw_below_drewN | apply below_drew1) | exact HB.out))) : w.heap.size ≤ gb712)); have n3_ := Aside0.mk ((by rw [hg]; exact (below_size (by repeat (first | (with_reducible first | exact HB.out | apply below_alloc | apply pw_below_drewN | apply below_drew1) | exact HB.out))) : w.heap.size ≤ gb712)); clear HB; have HB := n0_; have BK712 := n1_; have GW712 := n2_; have GE712 := n3_; clear n0_ n1_ n2_ n3_; clear hb hbox hg)))
  (try simp only [Act.put, List.setIfInBounds_toArray, List.set_cons_zero, List.set_cons_succ])
  go_cut [20] (fun v20 wc => ∃ (kq : Nat) (x20_2 : Bool), v20 = .bool x20_2 ∧ Aside0 (changeoverlaw24_KvtwoCas.j0 kq l0 x20_2 a1_0 a1_1 a1_2 a1_3 a1_4 a1_5 a1_6 = some r) ∧ Aside0 (kq ≤ k) ∧ Aside0 (wc.heap[gb712]? = some (.cells #[.int .i64 a1_0, .int .i64 a1_1, .int .i64 a1_2, .string a1_3, .string a1_4, .string a1_5, .int .i64 a1_6] 72 (0, 0))) ∧ Aside0 (Below w.heap.size w wc))
  case first =>
    have H := HC3.out
    clear HC3
    replace H := Option.bind_eq_some_iff.mp H
    obtain ⟨t713, A50, H⟩ := H
    replace H : (if t713 = true then (changeoverlaw24_KvtwoCas.j0 k l0 true a1_0 a1_1 a1_2 a1_3 a1_4 a1_5 a1_6) else ((changeoverlaw24_large.f a1_0 a1_1 a1_2 a1_3 a1_4 a1_5 a1_6).bind fun t714 => (if t714 = true then (changeoverlaw24_KvtwoCas.j0 k l0 true a1_0 a1_1 a1_2 a1_3 a1_4 a1_5 a1_6) else ((changeoverref23_Check.f k 2 l0).bind fun t715 => (changeoverlaw24_KvtwoCas.j0 k l0 (!t715) a1_0 a1_1 a1_2 a1_3 a1_4 a1_5 a1_6))))) = some r := H
    have A5 := Aside0.mk A50
    clear A50
    by_cases c6 : t713 = true
    · subst c6
      have H1 : (changeoverlaw24_KvtwoCas.j0 k l0 true a1_0 a1_1 a1_2 a1_3 a1_4 a1_5 a1_6) = some r := by rw [if_pos rfl] at H; exact H
      clear H
      have H := H1
      clear H1
      have H' := Aside0.mk H
      clear H
      go_wp2_with (first | (go_at_call 55; (with_reducible refine (changeoverref23_Large.calls k _ _ l0 true _ ?side1 ?side2 A5.out).mono ?_); (case side1 => repeat (first | exact (Kd.C_below HR0.out HB.out) | (with_reducible refine Kd.C_alloc ?_ _) | (with_reducible refine Kd.C_drewN ?_ _) | (with_reducible refine Kd.C_drew ?_))); (case side2 => exact HC0.out); rintro e w' ⟨rfl, ⟨nd, rfl⟩⟩; (try first | exact ⟨rfl, _, World.drewN_drewN _ _ _⟩ | exact ⟨rfl, _, Eq.trans (World.drewN_drewN _ _ _) (congrArg (World.drewN _) (Nat.add_assoc _ _ _))⟩)))
      repeat (go_quiet (first | (go_at_call 55; (with_reducible refine (changeoverref23_Large.calls k _ _ l0 true _ ?side1 ?side2 A5.out).mono ?_); (case side1 => repeat (first | exact (Kd.C_below HR0.out HB.out) | (with_reducible refine Kd.C_alloc ?_ _) | (with_reducible refine Kd.C_drewN ?_ _) | (with_reducible refine Kd.C_drew ?_))); (case side2 => exact HC0.out); rintro e w' ⟨rfl, ⟨nd, rfl⟩⟩; (try first | exact ⟨rfl, _, World.drewN_drewN _ _ _⟩ | exact ⟨rfl, _, Eq.trans (World.drewN_drewN _ _ _) (congrArg (World.drewN _) (Nat.add_assoc _ _ _))⟩))); try go_wp2_with (first | (go_at_call 55; (with_reducible refine (changeoverref23_Large.calls k _ _ l0 true _ ?side1 ?side2 A5.out).mono ?_); (case side1 => repeat (first | exact (Kd.C_below HR0.out HB.out) | (with_reducible refine Kd.C_alloc ?_ _) | (with_reducible refine Kd.C_drewN ?_ _) | (with_reducible refine Kd.C_drew ?_))); (case side2 => exact HC0.out); rintro e w' ⟨rfl, ⟨nd, rfl⟩⟩; (try first | exact ⟨rfl, _, World.drewN_drewN _ _ _⟩ | exact ⟨rfl, _, Eq.trans (World.drewN_drewN _ _ _) (congrArg (World.drewN _) (Nat.add_assoc _ _ _))⟩))))
      go_meet
      case rel => exact ⟨_, (true), (by first | rfl | (simp; done) | (simp [*]; done)), H', ⟨by first | omega | exact Nat.le_refl _⟩, ⟨by (with_reducible repeat (first | refine blk_drewN ?_ _ | refine blk_drew ?_ | refine blk_alloc ?_ _)); exact BK712.out⟩, ⟨by repeat (first | (with_reducible first | exact HB.out | apply below_alloc | apply pw_below_drewN | apply below_drew1 | refine below_set ?_ GE712.out) | exact HB.out)⟩⟩
    · replace c6 := Bool.eq_false_iff.mpr c6
      subst c6
      have H1 : ((changeoverlaw24_large.f a1_0 a1_1 a1_2 a1_3 a1_4 a1_5 a1_6).bind fun t714 => (if t714 = true then (changeoverlaw24_KvtwoCas.j0 k l0 true a1_0 a1_1 a1_2 a1_3 a1_4 a1_5 a1_6) else ((changeoverref23_Check.f k 2 l0).bind fun t715 => (changeoverlaw24_KvtwoCas.j0 k l0 (!t715) a1_0 a1_1 a1_2 a1_3 a1_4 a1_5 a1_6)))) = some r := by rw [if_neg (show ¬ (false = true) by decide)] at H; exact H
      clear H
      have H := H1
      clear H1
      replace H := Option.bind_eq_some_iff.mp H
      obtain ⟨t714, A70, H⟩ := H
      replace H : (if t714 = true then (changeoverlaw24_KvtwoCas.j0 k l0 true a1_0 a1_1 a1_2 a1_3 a1_4 a1_5 a1_6) else ((changeoverref23_Check.f k 2 l0).bind fun t715 => (changeoverlaw24_KvtwoCas.j0 k l0 (!t715) a1_0 a1_1 a1_2 a1_3 a1_4 a1_5 a1_6))) = some r := H
      have A7 := Aside0.mk A70
      clear A70
      by_cases c8 : t714 = true
      · subst c8
        have H1 : (changeoverlaw24_KvtwoCas.j0 k l0 true a1_0 a1_1 a1_2 a1_3 a1_4 a1_5 a1_6) = some r := by rw [if_pos rfl] at H; exact H
        clear H
        have H := H1
        clear H1
        have H' := Aside0.mk H
        clear H
        go_wp2_with (first | (go_at_call 55; (with_reducible refine (changeoverref23_Large.calls k _ _ l0 false _ ?side1 ?side2 A5.out).mono ?_); (case side1 => repeat (first | exact (Kd.C_below HR0.out HB.out) | (with_reducible refine Kd.C_alloc ?_ _) | (with_reducible refine Kd.C_drewN ?_ _) | (with_reducible refine Kd.C_drew ?_))); (case side2 => exact HC0.out); rintro e w' ⟨rfl, ⟨nd, rfl⟩⟩; (try first | exact ⟨rfl, _, World.drewN_drewN _ _ _⟩ | exact ⟨rfl, _, Eq.trans (World.drewN_drewN _ _ _) (congrArg (World.drewN _) (Nat.add_assoc _ _ _))⟩); have hcz9_0 : w4.cell? ⟨gb712, 0, none⟩ = some (.int .i64 a1_0) := (blk_cell BK712.out 0).trans rfl; have hcz9_1 : w4.cell? ⟨gb712, 1, none⟩ = some (.int .i64 a1_1) := (blk_cell BK712.out 1).trans rfl; have hcz9_2 : w4.cell? ⟨gb712, 2, none⟩ = some (.int .i64 a1_2) := (blk_cell BK712.out 2).trans rfl; have hcz9_3 : w4.cell? ⟨gb712, 3, none⟩ = some (.string a1_3) := (blk_cell BK712.out 3).trans rfl; have hcz9_4 : w4.cell? ⟨gb712, 4, none⟩ = some (.string a1_4) := (blk_cell BK712.out 4).trans rfl; have hcz9_5 : w4.cell? ⟨gb712, 5, none⟩ = some (.string a1_5) := (blk_cell BK712.out 5).trans rfl; have hcz9_6 : w4.cell? ⟨gb712, 6, none⟩ = some (.int .i64 a1_6) := (blk_cell BK712.out 6).trans rfl; have hfz9_0 := blk_frozen BK712.out 0; have hfz9_1 := blk_frozen BK712.out 1; have hfz9_2 := blk_frozen BK712.out 2; have hfz9_3 := blk_frozen BK712.out 3; have hfz9_4 := blk_frozen BK712.out 4; have hfz9_5 := blk_frozen BK712.out 5; have hfz9_6 := blk_frozen BK712.out 6) | (go_at_call 62; (with_reducible refine (changeoverlaw24_large.calls a1_0 a1_1 a1_2 a1_3 a1_4 a1_5 a1_6 true _ A7.out).mono ?_); rintro e w10 ⟨rfl, hb⟩; have n0_ := Aside0.mk (blk_below (g := gb712) (o := .cells #[.int .i64 a1_0, .int .i64 a1_1, .int .i64 a1_2, .string a1_3, .string a1_4, .string a1_5, .int .i64 a1_6] 72 (0, 0)) (by (with_reducible repeat (first | refine blk_drewN ?_ _ | refine blk_drew ?_ | refine blk_alloc ?_ _)); exact BK712.out) hb); have n1_ := Aside0.mk (below_step (by repeat (first | (with_reducible first | exact HB.out | apply below_alloc | apply pw_below_drewN | apply below_drew1 | refine below_set ?_ GE712.out) | exact HB.out)) hb); clear BK712; clear HB; have BK712 := n0_; have HB := n1_; clear n0_ n1_; (try clear hb); (try clear hb2); (try clear hk); (try clear hi)))
        repeat (go_quiet (first | (go_at_call 55; (with_reducible refine (changeoverref23_Large.calls k _ _ l0 false _ ?side1 ?side2 A5.out).mono ?_); (case side1 => repeat (first | exact (Kd.C_below HR0.out HB.out) | (with_reducible refine Kd.C_alloc ?_ _) | (with_reducible refine Kd.C_drewN ?_ _) | (with_reducible refine Kd.C_drew ?_))); (case side2 => exact HC0.out); rintro e w' ⟨rfl, ⟨nd, rfl⟩⟩; (try first | exact ⟨rfl, _, World.drewN_drewN _ _ _⟩ | exact ⟨rfl, _, Eq.trans (World.drewN_drewN _ _ _) (congrArg (World.drewN _) (Nat.add_assoc _ _ _))⟩); have hcz9_0 : w4.cell? ⟨gb712, 0, none⟩ = some (.int .i64 a1_0) := (blk_cell BK712.out 0).trans rfl; have hcz9_1 : w4.cell? ⟨gb712, 1, none⟩ = some (.int .i64 a1_1) := (blk_cell BK712.out 1).trans rfl; have hcz9_2 : w4.cell? ⟨gb712, 2, none⟩ = some (.int .i64 a1_2) := (blk_cell BK712.out 2).trans rfl; have hcz9_3 : w4.cell? ⟨gb712, 3, none⟩ = some (.string a1_3) := (blk_cell BK712.out 3).trans rfl; have hcz9_4 : w4.cell? ⟨gb712, 4, none⟩ = some (.string a1_4) := (blk_cell BK712.out 4).trans rfl; have hcz9_5 : w4.cell? ⟨gb712, 5, none⟩ = some (.string a1_5) := (blk_cell BK712.out 5).trans rfl; have hcz9_6 : w4.cell? ⟨gb712, 6, none⟩ = some (.int .i64 a1_6) := (blk_cell BK712.out 6).trans rfl; have hfz9_0 := blk_frozen BK712.out 0; have hfz9_1 := blk_frozen BK712.out 1; have hfz9_2 := blk_frozen BK712.out 2; have hfz9_3 := blk_frozen BK712.out 3; have hfz9_4 := blk_frozen BK712.out 4; have hfz9_5 := blk_frozen BK712.out 5; have hfz9_6 := blk_frozen BK712.out 6) | (go_at_call 62; (with_reducible refine (changeoverlaw24_large.calls a1_0 a1_1 a1_2 a1_3 a1_4 a1_5 a1_6 true _ A7.out).mono ?_); rintro e w10 ⟨rfl, hb⟩; have n0_ := Aside0.mk (blk_below (g := gb712) (o := .cells #[.int .i64 a1_0, .int .i64 a1_1, .int .i64 a1_2, .string a1_3, .string a1_4, .string a1_5, .int .i64 a1_6] 72 (0, 0)) (by (with_reducible repeat (first | refine blk_drewN ?_ _ | refine blk_drew ?_ | refine blk_alloc ?_ _)); exact BK712.out) hb); have n1_ := Aside0.mk (below_step (by repeat (first | (with_reducible first | exact HB.out | apply below_alloc | apply pw_below_drewN | apply below_drew1 | refine below_set ?_ GE712.out) | exact HB.out)) hb); clear BK712; clear HB; have BK712 := n0_; have HB := n1_; clear n0_ n1_; (try clear hb); (try clear hb2); (try clear hk); (try clear hi))); try go_wp2_with (first | (go_at_call 55; (with_reducible refine (changeoverref23_Large.calls k _ _ l0 false _ ?side1 ?side2 A5.out).mono ?_); (case side1 => repeat (first | exact (Kd.C_below HR0.out HB.out) | (with_reducible refine Kd.C_alloc ?_ _) | (with_reducible refine Kd.C_drewN ?_ _) | (with_reducible refine Kd.C_drew ?_))); (case side2 => exact HC0.out); rintro e w' ⟨rfl, ⟨nd, rfl⟩⟩; (try first | exact ⟨rfl, _, World.drewN_drewN _ _ _⟩ | exact ⟨rfl, _, Eq.trans (World.drewN_drewN _ _ _) (congrArg (World.drewN _) (Nat.add_assoc _ _ _))⟩); have hcz9_0 : w4.cell? ⟨gb712, 0, none⟩ = some (.int .i64 a1_0) := (blk_cell BK712.out 0).trans rfl; have hcz9_1 : w4.cell? ⟨gb712, 1, none⟩ = some (.int .i64 a1_1) := (blk_cell BK712.out 1).trans rfl; have hcz9_2 : w4.cell? ⟨gb712, 2, none⟩ = some (.int .i64 a1_2) := (blk_cell BK712.out 2).trans rfl; have hcz9_3 : w4.cell? ⟨gb712, 3, none⟩ = some (.string a1_3) := (blk_cell BK712.out 3).trans rfl; have hcz9_4 : w4.cell? ⟨gb712, 4, none⟩ = some (.string a1_4) := (blk_cell BK712.out 4).trans rfl; have hcz9_5 : w4.cell? ⟨gb712, 5, none⟩ = some (.string a1_5) := (blk_cell BK712.out 5).trans rfl; have hcz9_6 : w4.cell? ⟨gb712, 6, none⟩ = some (.int .i64 a1_6) := (blk_cell BK712.out 6).trans rfl; have hfz9_0 := blk_frozen BK712.out 0; have hfz9_1 := blk_frozen BK712.out 1; have hfz9_2 := blk_frozen BK712.out 2; have hfz9_3 := blk_frozen BK712.out 3; have hfz9_4 := blk_frozen BK712.out 4; have hfz9_5 := blk_frozen BK712.out 5; have hfz9_6 := blk_frozen BK712.out 6) | (go_at_call 62; (with_reducible refine (changeoverlaw24_large.calls a1_0 a1_1 a1_2 a1_3 a1_4 a1_5 a1_6 true _ A7.out).mono ?_); rintro e w10 ⟨rfl, hb⟩; have n0_ := Aside0.mk (blk_below (g := gb712) (o := .cells #[.int .i64 a1_0, .int .i64 a1_1, .int .i64 a1_2, .string a1_3, .string a1_4, .string a1_5, .int .i64 a1_6] 72 (0, 0)) (by (with_reducible repeat (first | refine blk_drewN ?_ _ | refine blk_drew ?_ | refine blk_alloc ?_ _)); exact BK712.out) hb); have n1_ := Aside0.mk (below_step (by repeat (first | (with_reducible first | exact HB.out | apply below_alloc | apply pw_below_drewN | apply below_drew1 | refine below_set ?_ GE712.out) | exact HB.out)) hb); clear BK712; clear HB; have BK712 := n0_; have HB := n1_; clear n0_ n1_; (try clear hb); (try clear hb2); (try clear hk); (try clear hi))))
        go_meet
        case rel => exact ⟨_, (true), (by first | rfl | (simp; done) | (simp [*]; done)), H', ⟨by first | omega | exact Nat.le_refl _⟩, ⟨by (with_reducible repeat (first | refine blk_drewN ?_ _ | refine blk_drew ?_ | refine blk_alloc ?_ _)); exact BK712.out⟩, ⟨by repeat (first | (with_reducible first | exact HB.out | apply below_alloc | apply pw_below_drewN | apply below_drew1 | refine below_set ?_ GE712.out) | exact HB.out)⟩⟩
      · replace c8 := Bool.eq_false_iff.mpr c8
        subst c8
        have H1 : ((changeoverref23_Check.f k 2 l0).bind fun t715 => (changeoverlaw24_KvtwoCas.j0 k l0 (!t715) a1_0 a1_1 a1_2 a1_3 a1_4 a1_5 a1_6)) = some r := by rw [if_neg (show ¬ (false = true) by decide)] at H; exact H
        clear H
        have H := H1
        clear H1
        replace H := Option.bind_eq_some_iff.mp H
        obtain ⟨t715, A110, H⟩ := H
        replace H : (changeoverlaw24_KvtwoCas.j0 k l0 (!t715) a1_0 a1_1 a1_2 a1_3 a1_4 a1_5 a1_6) = some r := H
        have A11 := Aside0.mk A110
        clear A110
        have H' := Aside0.mk H
        clear H
        go_wp2_with (first | (go_at_call 55; (with_reducible refine (changeoverref23_Large.calls k _ _ l0 false _ ?side1 ?side2 A5.out).mono ?_); (case side1 => repeat (first | exact (Kd.C_below HR0.out HB.out) | (with_reducible refine Kd.C_alloc ?_ _) | (with_reducible refine Kd.C_drewN ?_ _) | (with_reducible refine Kd.C_drew ?_))); (case side2 => exact HC0.out); rintro e w' ⟨rfl, ⟨nd, rfl⟩⟩; (try first | exact ⟨rfl, _, World.drewN_drewN _ _ _⟩ | exact ⟨rfl, _, Eq.trans (World.drewN_drewN _ _ _) (congrArg (World.drewN _) (Nat.add_assoc _ _ _))⟩); have hcz12_0 : w4.cell? ⟨gb712, 0, none⟩ = some (.int .i64 a1_0) := (blk_cell BK712.out 0).trans rfl; have hcz12_1 : w4.cell? ⟨gb712, 1, none⟩ = some (.int .i64 a1_1) := (blk_cell BK712.out 1).trans rfl; have hcz12_2 : w4.cell? ⟨gb712, 2, none⟩ = some (.int .i64 a1_2) := (blk_cell BK712.out 2).trans rfl; have hcz12_3 : w4.cell? ⟨gb712, 3, none⟩ = some (.string a1_3) := (blk_cell BK712.out 3).trans rfl; have hcz12_4 : w4.cell? ⟨gb712, 4, none⟩ = some (.string a1_4) := (blk_cell BK712.out 4).trans rfl; have hcz12_5 : w4.cell? ⟨gb712, 5, none⟩ = some (.string a1_5) := (blk_cell BK712.out 5).trans rfl; have hcz12_6 : w4.cell? ⟨gb712, 6, none⟩ = some (.int .i64 a1_6) := (blk_cell BK712.out 6).trans rfl; have hfz12_0 := blk_frozen BK712.out 0; have hfz12_1 := blk_frozen BK712.out 1; have hfz12_2 := blk_frozen BK712.out 2; have hfz12_3 := blk_frozen BK712.out 3; have hfz12_4 := blk_frozen BK712.out 4; have hfz12_5 := blk_frozen BK712.out 5; have hfz12_6 := blk_frozen BK712.out 6) | (go_at_call 62; (with_reducible refine (changeoverlaw24_large.calls a1_0 a1_1 a1_2 a1_3 a1_4 a1_5 a1_6 false _ A7.out).mono ?_); rintro e w13 ⟨rfl, hb⟩; have n0_ := Aside0.mk (blk_below (g := gb712) (o := .cells #[.int .i64 a1_0, .int .i64 a1_1, .int .i64 a1_2, .string a1_3, .string a1_4, .string a1_5, .int .i64 a1_6] 72 (0, 0)) (by (with_reducible repeat (first | refine blk_drewN ?_ _ | refine blk_drew ?_ | refine blk_alloc ?_ _)); exact BK712.out) hb); have n1_ := Aside0.mk (below_step (by repeat (first | (with_reducible first | exact HB.out | apply below_alloc | apply pw_below_drewN | apply below_drew1 | refine below_set ?_ GE712.out) | exact HB.out)) hb); clear BK712; clear HB; have BK712 := n0_; have HB := n1_; clear n0_ n1_; (try clear hb); (try clear hb2); (try clear hk); (try clear hi)) | (go_at_call 61; (with_reducible refine (changeoverref23_Check.calls k 2 _ _ l0 t715 _ ?side1 ?side2 A11.out).mono ?_); (case side1 => repeat (first | exact (Kd.C_below HR0.out HB.out) | (with_reducible refine Kd.C_alloc ?_ _) | (with_reducible refine Kd.C_drewN ?_ _) | (with_reducible refine Kd.C_drew ?_))); (case side2 => exact HC0.out); rintro e w' ⟨rfl, ⟨nd, rfl⟩⟩; (try first | exact ⟨rfl, _, World.drewN_drewN _ _ _⟩ | exact ⟨rfl, _, Eq.trans (World.drewN_drewN _ _ _) (congrArg (World.drewN _) (Nat.add_assoc _ _ _))⟩)))
        repeat (go_quiet (first | (go_at_call 55; (with_reducible refine (changeoverref23_Large.calls k _ _ l0 false _ ?side1 ?side2 A5.out).mono ?_); (case side1 => repeat (first | exact (Kd.C_below HR0.out HB.out) | (with_reducible refine Kd.C_alloc ?_ _) | (with_reducible refine Kd.C_drewN ?_ _) | (with_reducible refine Kd.C_drew ?_))); (case side2 => exact HC0.out); rintro e w' ⟨rfl, ⟨nd, rfl⟩⟩; (try first | exact ⟨rfl, _, World.drewN_drewN _ _ _⟩ | exact ⟨rfl, _, Eq.trans (World.drewN_drewN _ _ _) (congrArg (World.drewN _) (Nat.add_assoc _ _ _))⟩); have hcz12_0 : w4.cell? ⟨gb712, 0, none⟩ = some (.int .i64 a1_0) := (blk_cell BK712.out 0).trans rfl; have hcz12_1 : w4.cell? ⟨gb712, 1, none⟩ = some (.int .i64 a1_1) := (blk_cell BK712.out 1).trans rfl; have hcz12_2 : w4.cell? ⟨gb712, 2, none⟩ = some (.int .i64 a1_2) := (blk_cell BK712.out 2).trans rfl; have hcz12_3 : w4.cell? ⟨gb712, 3, none⟩ = some (.string a1_3) := (blk_cell BK712.out 3).trans rfl; have hcz12_4 : w4.cell? ⟨gb712, 4, none⟩ = some (.string a1_4) := (blk_cell BK712.out 4).trans rfl; have hcz12_5 : w4.cell? ⟨gb712, 5, none⟩ = some (.string a1_5) := (blk_cell BK712.out 5).trans rfl; have hcz12_6 : w4.cell? ⟨gb712, 6, none⟩ = some (.int .i64 a1_6) := (blk_cell BK712.out 6).trans rfl; have hfz12_0 := blk_frozen BK712.out 0; have hfz12_1 := blk_frozen BK712.out 1; have hfz12_2 := blk_frozen BK712.out 2; have hfz12_3 := blk_frozen BK712.out 3; have hfz12_4 := blk_frozen BK712.out 4; have hfz12_5 := blk_frozen BK712.out 5; have hfz12_6 := blk_frozen BK712.out 6) | (go_at_call 62; (with_reducible refine (changeoverlaw24_large.calls a1_0 a1_1 a1_2 a1_3 a1_4 a1_5 a1_6 false _ A7.out).mono ?_); rintro e w13 ⟨rfl, hb⟩; have n0_ := Aside0.mk (blk_below (g := gb712) (o := .cells #[.int .i64 a1_0, .int .i64 a1_1, .int .i64 a1_2, .string a1_3, .string a1_4, .string a1_5, .int .i64 a1_6] 72 (0, 0)) (by (with_reducible repeat (first | refine blk_drewN ?_ _ | refine blk_drew ?_ | refine blk_alloc ?_ _)); exact BK712.out) hb); have n1_ := Aside0.mk (below_step (by repeat (first | (with_reducible first | exact HB.out | apply below_alloc | apply pw_below_drewN | apply below_drew1 | refine below_set ?_ GE712.out) | exact HB.out)) hb); clear BK712; clear HB; have BK712 := n0_; have HB := n1_; clear n0_ n1_; (try clear hb); (try clear hb2); (try clear hk); (try clear hi)) | (go_at_call 61; (with_reducible refine (changeoverref23_Check.calls k 2 _ _ l0 t715 _ ?side1 ?side2 A11.out).mono ?_); (case side1 => repeat (first | exact (Kd.C_below HR0.out HB.out) | (with_reducible refine Kd.C_alloc ?_ _) | (with_reducible refine Kd.C_drewN ?_ _) | (with_reducible refine Kd.C_drew ?_))); (case side2 => exact HC0.out); rintro e w' ⟨rfl, ⟨nd, rfl⟩⟩; (try first | exact ⟨rfl, _, World.drewN_drewN _ _ _⟩ | exact ⟨rfl, _, Eq.trans (World.drewN_drewN _ _ _) (congrArg (World.drewN _) (Nat.add_assoc _ _ _))⟩))); try go_wp2_with (first | (go_at_call 55; (with_reducible refine (changeoverref23_Large.calls k _ _ l0 false _ ?side1 ?side2 A5.out).mono ?_); (case side1 => repeat (first | exact (Kd.C_below HR0.out HB.out) | (with_reducible refine Kd.C_alloc ?_ _) | (with_reducible refine Kd.C_drewN ?_ _) | (with_reducible refine Kd.C_drew ?_))); (case side2 => exact HC0.out); rintro e w' ⟨rfl, ⟨nd, rfl⟩⟩; (try first | exact ⟨rfl, _, World.drewN_drewN _ _ _⟩ | exact ⟨rfl, _, Eq.trans (World.drewN_drewN _ _ _) (congrArg (World.drewN _) (Nat.add_assoc _ _ _))⟩); have hcz12_0 : w4.cell? ⟨gb712, 0, none⟩ = some (.int .i64 a1_0) := (blk_cell BK712.out 0).trans rfl; have hcz12_1 : w4.cell? ⟨gb712, 1, none⟩ = some (.int .i64 a1_1) := (blk_cell BK712.out 1).trans rfl; have hcz12_2 : w4.cell? ⟨gb712, 2, none⟩ = some (.int .i64 a1_2) := (blk_cell BK712.out 2).trans rfl; have hcz12_3 : w4.cell? ⟨gb712, 3, none⟩ = some (.string a1_3) := (blk_cell BK712.out 3).trans rfl; have hcz12_4 : w4.cell? ⟨gb712, 4, none⟩ = some (.string a1_4) := (blk_cell BK712.out 4).trans rfl; have hcz12_5 : w4.cell? ⟨gb712, 5, none⟩ = some (.string a1_5) := (blk_cell BK712.out 5).trans rfl; have hcz12_6 : w4.cell? ⟨gb712, 6, none⟩ = some (.int .i64 a1_6) := (blk_cell BK712.out 6).trans rfl; have hfz12_0 := blk_frozen BK712.out 0; have hfz12_1 := blk_frozen BK712.out 1; have hfz12_2 := blk_frozen BK712.out 2; have hfz12_3 := blk_frozen BK712.out 3; have hfz12_4 := blk_frozen BK712.out 4; have hfz12_5 := blk_frozen BK712.out 5; have hfz12_6 := blk_frozen BK712.out 6) | (go_at_call 62; (with_reducible refine (changeoverlaw24_large.calls a1_0 a1_1 a1_2 a1_3 a1_4 a1_5 a1_6 false _ A7.out).mono ?_); rintro e w13 ⟨rfl, hb⟩; have n0_ := Aside0.mk (blk_below (g := gb712) (o := .cells #[.int .i64 a1_0, .int .i64 a1_1, .int .i64 a1_2, .string a1_3, .string a1_4, .string a1_5, .int .i64 a1_6] 72 (0, 0)) (by (with_reducible repeat (first | refine blk_drewN ?_ _ | refine blk_drew ?_ | refine blk_alloc ?_ _)); exact BK712.out) hb); have n1_ := Aside0.mk (below_step (by repeat (first | (with_reducible first | exact HB.out | apply below_alloc | apply pw_below_drewN | apply below_drew1 | refine below_set ?_ GE712.out) | exact HB.out)) hb); clear BK712; clear HB; have BK712 := n0_; have HB := n1_; clear n0_ n1_; (try clear hb); (try clear hb2); (try clear hk); (try clear hi)) | (go_at_call 61; (with_reducible refine (changeoverref23_Check.calls k 2 _ _ l0 t715 _ ?side1 ?side2 A11.out).mono ?_); (case side1 => repeat (first | exact (Kd.C_below HR0.out HB.out) | (with_reducible refine Kd.C_alloc ?_ _) | (with_reducible refine Kd.C_drewN ?_ _) | (with_reducible refine Kd.C_drew ?_))); (case side2 => exact HC0.out); rintro e w' ⟨rfl, ⟨nd, rfl⟩⟩; (try first | exact ⟨rfl, _, World.drewN_drewN _ _ _⟩ | exact ⟨rfl, _, Eq.trans (World.drewN_drewN _ _ _) (congrArg (World.drewN _) (Nat.add_assoc _ _ _))⟩))))
        go_meet
        case rel => exact ⟨_, (!t715), (by first | rfl | (simp; done) | (simp [*]; done)), H', ⟨by first | omega | exact Nat.le_refl _⟩, ⟨by (with_reducible repeat (first | refine blk_drewN ?_ _ | refine blk_drew ?_ | refine blk_alloc ?_ _)); exact BK712.out⟩, ⟨by repeat (first | (with_reducible first | exact HB.out | apply below_alloc | apply pw_below_drewN | apply below_drew1 | refine below_set ?_ GE712.out) | exact HB.out)⟩⟩
  case rest =>
    clear HC3
    try clear c1
    try clear p2
    try clear c6
    try clear c8
    try clear c11
    try clear hcz12_0
    try clear hcz12_1
    try clear hcz12_2
    try clear hcz12_3
    try clear hcz12_4
    try clear hcz12_5
    try clear hcz12_6
    try clear hcz9_0
    try clear hcz9_1
    try clear hcz9_2
    try clear hcz9_3
    try clear hcz9_4
    try clear hcz9_5
    try clear hcz9_6
    try clear hfz12_0
    try clear hfz12_1
    try clear hfz12_2
    try clear hfz12_3
    try clear hfz12_4
    try clear hfz12_5
    try clear hfz12_6
    try clear hfz9_0
    try clear hfz9_1
    try clear hfz9_2
    try clear hfz9_3
    try clear hfz9_4
    try clear hfz9_5
    try clear hfz9_6
    obtain ⟨kq, x20_2, rfl, HA, HJ2, BK712, HB⟩ := hcut
    cases kq with
    | zero => exact absurd HA.out (by simp [changeoverlaw24_KvtwoCas.j0])
    | succ kj2 =>
      have H := HA.out
      clear HA
      simp only [changeoverlaw24_KvtwoCas.j0] at H
      by_cases c14 : x20_2 = true
      · subst c14
        have H1 : ((changeoverlaw24_awake.f kj2).bind fun t716 => (some t716)) = some r := by rw [if_pos rfl] at H; exact H
        clear H
        have H := H1
        clear H1
        replace H := Option.bind_eq_some_iff.mp H
        obtain ⟨t716, A150, H⟩ := H
        replace H : (some t716) = some r := H
        have A15 := Aside0.mk A150
        clear A150
        obtain rfl := Option.some.inj H
        go_wp2_with (first | (go_at_call 63; (with_reducible refine (changeoverlaw24_awake.calls kj2  t716 _ A15.out).mono ?_); rintro e w16 ⟨rfl, hb⟩; have n0_ := Aside0.mk (blk_below (g := gb712) (o := .cells #[.int .i64 a1_0, .int .i64 a1_1, .int .i64 a1_2, .string a1_3, .string a1_4, .string a1_5, .int .i64 a1_6] 72 (0, 0)) (by (with_reducible repeat (first | refine blk_drewN ?_ _ | refine blk_drew ?_ | refine blk_alloc ?_ _)); exact BK712.out) hb); have n1_ := Aside0.mk (below_step (by repeat (first | (with_reducible first | exact HB.out | apply below_alloc | apply pw_below_drewN | apply below_drew1 | refine below_set ?_ GE712.out) | exact HB.out)) hb); clear BK712; clear HB; have BK712 := n0_; have HB := n1_; clear n0_ n1_; (try clear hb); (try clear hb2); (try clear hk); (try clear hi)))
        repeat (go_quiet (first | (go_at_call 63; (with_reducible refine (changeoverlaw24_awake.calls kj2  t716 _ A15.out).mono ?_); rintro e w16 ⟨rfl, hb⟩; have n0_ := Aside0.mk (blk_below (g := gb712) (o := .cells #[.int .i64 a1_0, .int .i64 a1_1, .int .i64 a1_2, .string a1_3, .string a1_4, .string a1_5, .int .i64 a1_6] 72 (0, 0)) (by (with_reducible repeat (first | refine blk_drewN ?_ _ | refine blk_drew ?_ | refine blk_alloc ?_ _)); exact BK712.out) hb); have n1_ := Aside0.mk (below_step (by repeat (first | (with_reducible first | exact HB.out | apply below_alloc | apply pw_below_drewN | apply below_drew1 | refine below_set ?_ GE712.out) | exact HB.out)) hb); clear BK712; clear HB; have BK712 := n0_; have HB := n1_; clear n0_ n1_; (try clear hb); (try clear hb2); (try clear hk); (try clear hi))); try go_wp2_with (first | (go_at_call 63; (with_reducible refine (changeoverlaw24_awake.calls kj2  t716 _ A15.out).mono ?_); rintro e w16 ⟨rfl, hb⟩; have n0_ := Aside0.mk (blk_below (g := gb712) (o := .cells #[.int .i64 a1_0, .int .i64 a1_1, .int .i64 a1_2, .string a1_3, .string a1_4, .string a1_5, .int .i64 a1_6] 72 (0, 0)) (by (with_reducible repeat (first | refine blk_drewN ?_ _ | refine blk_drew ?_ | refine blk_alloc ?_ _)); exact BK712.out) hb); have n1_ := Aside0.mk (below_step (by repeat (first | (with_reducible first | exact HB.out | apply below_alloc | apply pw_below_drewN | apply below_drew1 | refine below_set ?_ GE712.out) | exact HB.out)) hb); clear BK712; clear HB; have BK712 := n0_; have HB := n1_; clear n0_ n1_; (try clear hb); (try clear hb2); (try clear hk); (try clear hi))))
        go_ret
        exact ⟨by first | rfl | (simp [errW_none, errW_some] <;> rfl) | (simp [*, errW_none, errW_some] <;> rfl), by repeat (first | (with_reducible first | exact HB.out | apply below_alloc | apply pw_below_drewN | apply below_drew1 | refine below_set ?_ GE712.out) | exact HB.out)⟩
      · replace c14 := Bool.eq_false_iff.mpr c14
        subst c14
        have H1 : ((kvtwo_Do.f kj2 l0 5 a1_1 a1_2 a1_3 a1_4 a1_5 a1_6).bind fun bt717 => ((changeoverref23_Place.f kj2 l0 a1_3).bind fun t727 => (if t727 ≥ 0 then (if 0 ≤ t727 then (if t727 < (l0.length : Int) then (changeoverlaw24_KvtwoCas.j1 kj2 l0 bt717.1 t727 (((rd_T78 l0 t727).f1).toList == a1_5.toList) 5 a1_1 a1_2 a1_3 a1_4 a1_5 a1_6 bt717.2.1 bt717.2.2.1 bt717.2.2.2.1 bt717.2.2.2.2.1 bt717.2.2.2.2.2.1 bt717.2.2.2.2.2.2) else (none)) else (none)) else (changeoverlaw24_KvtwoCas.j1 kj2 l0 bt717.1 t727 false 5 a1_1 a1_2 a1_3 a1_4 a1_5 a1_6 bt717.2.1 bt717.2.2.1 bt717.2.2.2.1 bt717.2.2.2.2.1 bt717.2.2.2.2.2.1 bt717.2.2.2.2.2.2)))) = some r := by rw [if_neg (show ¬ (false = true) by decide)] at H; exact H
        clear H
        have H := H1
        clear H1
        replace H := Option.bind_eq_some_iff.mp H
        obtain ⟨⟨t717, t720, t721, t722, t723, t724, t725⟩, A170, H⟩ := H
        replace H : ((changeoverref23_Place.f kj2 l0 a1_3).bind fun t727 => (if t727 ≥ 0 then (if 0 ≤ t727 then (if t727 < (l0.length : Int) then (changeoverlaw24_KvtwoCas.j1 kj2 l0 t717 t727 (((rd_T78 l0 t727).f1).toList == a1_5.toList) 5 a1_1 a1_2 a1_3 a1_4 a1_5 a1_6 t720 t721 t722 t723 t724 t725) else (none)) else (none)) else (changeoverlaw24_KvtwoCas.j1 kj2 l0 t717 t727 false 5 a1_1 a1_2 a1_3 a1_4 a1_5 a1_6 t720 t721 t722 t723 t724 t725))) = some r := H
        have A17 := Aside0.mk A170
        clear A170
        replace H := Option.bind_eq_some_iff.mp H
        obtain ⟨t727, A180, H⟩ := H
        replace H : (if t727 ≥ 0 then (if 0 ≤ t727 then (if t727 < (l0.length : Int) then (changeoverlaw24_KvtwoCas.j1 kj2 l0 t717 t727 (((rd_T78 l0 t727).f1).toList == a1_5.toList) 5 a1_1 a1_2 a1_3 a1_4 a1_5 a1_6 t720 t721 t722 t723 t724 t725) else (none)) else (none)) else (changeoverlaw24_KvtwoCas.j1 kj2 l0 t717 t727 false 5 a1_1 a1_2 a1_3 a1_4 a1_5 a1_6 t720 t721 t722 t723 t724 t725)) = some r := H
        have A18 := Aside0.mk A180
        clear A180
        have HC19 := Aside0.mk H
        clear H
        have hcz20_0 : wc.cell? ⟨gb712, 0, none⟩ = some (.int .i64 a1_0) := (blk_cell BK712.out 0).trans rfl
        have hcz20_1 : wc.cell? ⟨gb712, 1, none⟩ = some (.int .i64 a1_1) := (blk_cell BK712.out 1).trans rfl
        have hcz20_2 : wc.cell? ⟨gb712, 2, none⟩ = some (.int .i64 a1_2) := (blk_cell BK712.out 2).trans rfl
        have hcz20_3 : wc.cell? ⟨gb712, 3, none⟩ = some (.string a1_3) := (blk_cell BK712.out 3).trans rfl
        have hcz20_4 : wc.cell? ⟨gb712, 4, none⟩ = some (.string a1_4) := (blk_cell BK712.out 4).trans rfl
        have hcz20_5 : wc.cell? ⟨gb712, 5, none⟩ = some (.string a1_5) := (blk_cell BK712.out 5).trans rfl
        have hcz20_6 : wc.cell? ⟨gb712, 6, none⟩ = some (.int .i64 a1_6) := (blk_cell BK712.out 6).trans rfl
        have hfz20_0 := blk_frozen BK712.out 0
        have hfz20_1 := blk_frozen BK712.out 1
        have hfz20_2 := blk_frozen BK712.out 2
        have hfz20_3 := blk_frozen BK712.out 3
        have hfz20_4 := blk_frozen BK712.out 4
        have hfz20_5 := blk_frozen BK712.out 5
        have hfz20_6 := blk_frozen BK712.out 6
        go_upto_region 6 with (first | (go_at_call 64; (with_reducible refine (kvtwo_Do.calls kj2 _ _ l0 5 a1_1 a1_2 a1_3 a1_4 a1_5 a1_6 t717 t720 t721 t722 t723 t724 t725 _ ?side1 ?side2 A17.out).mono ?_); (case side1 => exact Kd.C_below HR0.out (by repeat (first | (with_reducible first | exact HB.out | apply below_alloc | apply pw_below_drewN | apply below_drew1 | refine below_set ?_ GE712.out) | exact HB.out))); (case side2 => exact HC0.out); rintro e w21 ⟨v718, rfl, ho0, hb⟩; have n0_ := Aside0.mk (Kd.R_lower ho0 (below_size (by repeat (first | (with_reducible first | exact HB.out | apply below_alloc | apply pw_below_drewN | apply below_drew1 | refine below_set ?_ GE712.out) | exact HB.out)))); have n1_ := Aside0.mk (blk_below (g := gb712) (o := .cells #[.int .i64 5, .int .i64 a1_1, .int .i64 a1_2, .string a1_3, .string a1_4, .string a1_5, .int .i64 a1_6] 72 (0, 0)) (by (with_reducible repeat (first | refine blk_drewN ?_ _ | refine blk_drew ?_ | refine blk_alloc ?_ _)); refine blk_put (cs := #[.int .i64 a1_0, .int .i64 a1_1, .int .i64 a1_2, .string a1_3, .string a1_4, .string a1_5, .int .i64 a1_6]) ?_ 0 _ rfl; (with_reducible repeat (first | refine blk_drewN ?_ _ | refine blk_drew ?_ | refine blk_alloc ?_ _)); exact BK712.out) hb); have n2_ := Aside0.mk (below_step (by repeat (first | (with_reducible first | exact HB.out | apply below_alloc | apply pw_below_drewN | apply below_drew1 | refine below_set ?_ GE712.out) | exact HB.out)) hb); clear BK712; clear HB; have HO719 := n0_; have BK712 := n1_; have HB := n2_; clear n0_ n1_ n2_; (try clear hb); (try clear hb2); (try clear hk); (try clear hi); (try clear ho0)) | ((with_reducible refine gate_dst (N := 6) rfl ?_); (try (refine gate_guard (by rfl) ?_; dsimp only)); refine box_event ?hg (N := 6) ?hd (cs := #[.int .i64 0, .int .i64 0, .int .i64 0, .bool false, .string (⟨#[]⟩ : ByteArray), .int .i64 0]) (t := 60) ?hr ?_; (case hd => rfl); (case hg => rfl); (case hr => first | (go_simp; done) | (go_simp; rfl)); intro gb726 hg w22 hbox hb; have n0_ := Aside0.mk (Kd.R_below (by (with_reducible repeat (first | apply Kd.R_alloc | apply Kd.R_drewN | apply Kd.R_drew)); exact HO719.out) hb); have n1_ := Aside0.mk (blk_below (g := gb712) (o := .cells #[.int .i64 5, .int .i64 a1_1, .int .i64 a1_2, .string a1_3, .string a1_4, .string a1_5, .int .i64 a1_6] 72 (0, 0)) (by (with_reducible repeat (first | refine blk_drewN ?_ _ | refine blk_drew ?_ | refine blk_alloc ?_ _)); exact BK712.out) hb); have n2_ := Aside0.mk (below_step (by repeat (first | (with_reducible first | exact HB.out | apply below_alloc | apply pw_below_drewN | apply below_drew1 | refine below_set ?_ GE712.out) | exact HB.out)) hb); have n3_ := Aside0.mk (hbox); have n4_ := Aside0.mk ((by rw [hg]; exact (below_size (by repeat (first | (with_reducible first | exact HB.out | apply below_alloc | apply pw_below_drewN | apply below_drew1 | refine below_set ?_ GE712.out) | exact HB.out))) : w.heap.size ≤ gb726)); have n5_ := Aside0.mk ((by rw [hg]; exact (below_size (by repeat (first | (with_reducible first | exact HB.out | apply below_alloc | apply pw_below_drewN | apply below_drew1 | refine below_set ?_ GE712.out) | exact HB.out))) : w.heap.size ≤ gb726)); have n6_ := Aside0.mk ((by rw [hg]; exact Nat.ne_of_lt (blk_lt (g := gb712) (o := .cells #[.int .i64 5, .int .i64 a1_1, .int .i64 a1_2, .string a1_3, .string a1_4, .string a1_5, .int .i64 a1_6] 72 (0, 0)) (by (with_reducible repeat (first | refine blk_drewN ?_ _ | refine blk_drew ?_ | refine blk_alloc ?_ _)); exact BK712.out)) : gb712 ≠ gb726)); have n7_ := Aside0.mk ((by rw [hg]; exact Nat.ne_of_gt (blk_lt (g := gb712) (o := .cells #[.int .i64 5, .int .i64 a1_1, .int .i64 a1_2, .string a1_3, .string a1_4, .string a1_5, .int .i64 a1_6] 72 (0, 0)) (by (with_reducible repeat (first | refine blk_drewN ?_ _ | refine blk_drew ?_ | refine blk_alloc ?_ _)); exact BK712.out)) : gb726 ≠ gb712)); clear HO719; clear BK712; clear HB; have HO719 := n0_; have BK712 := n1_; have HB := n2_; have BK726 := n3_; have GW726 := n4_; have GE726 := n5_; have NB712_726 := n6_; have NB726_712 := n7_; clear n0_ n1_ n2_ n3_ n4_ n5_ n6_ n7_; clear hb hbox hg; have hnb23 := NB726_712.out; have hnc23 := NB712_726.out; have hcz24_0 : w22.cell? ⟨gb726, 0, none⟩ = some (.int .i64 0) := (blk_cell BK726.out 0).trans rfl; have hcz24_1 : w22.cell? ⟨gb726, 1, none⟩ = some (.int .i64 0) := (blk_cell BK726.out 1).trans rfl; have hcz24_2 : w22.cell? ⟨gb726, 2, none⟩ = some (.int .i64 0) := (blk_cell BK726.out 2).trans rfl; have hcz24_3 : w22.cell? ⟨gb726, 3, none⟩ = some (.bool false) := (blk_cell BK726.out 3).trans rfl; have hcz24_4 : w22.cell? ⟨gb726, 4, none⟩ = some (.string (⟨#[]⟩ : ByteArray)) := (blk_cell BK726.out 4).trans rfl; have hcz24_5 : w22.cell? ⟨gb726, 5, none⟩ = some (.int .i64 0) := (blk_cell BK726.out 5).trans rfl; have hfz24_0 := blk_frozen BK726.out 0; have hfz24_1 := blk_frozen BK726.out 1; have hfz24_2 := blk_frozen BK726.out 2; have hfz24_3 := blk_frozen BK726.out 3; have hfz24_4 := blk_frozen BK726.out 4; have hfz24_5 := blk_frozen BK726.out 5; have hcz25_0 : w22.cell? ⟨gb712, 0, none⟩ = some (.int .i64 5) := (blk_cell BK712.out 0).trans rfl; have hcz25_1 : w22.cell? ⟨gb712, 1, none⟩ = some (.int .i64 a1_1) := (blk_cell BK712.out 1).trans rfl; have hcz25_2 : w22.cell? ⟨gb712, 2, none⟩ = some (.int .i64 a1_2) := (blk_cell BK712.out 2).trans rfl; have hcz25_3 : w22.cell? ⟨gb712, 3, none⟩ = some (.string a1_3) := (blk_cell BK712.out 3).trans rfl; have hcz25_4 : w22.cell? ⟨gb712, 4, none⟩ = some (.string a1_4) := (blk_cell BK712.out 4).trans rfl; have hcz25_5 : w22.cell? ⟨gb712, 5, none⟩ = some (.string a1_5) := (blk_cell BK712.out 5).trans rfl; have hcz25_6 : w22.cell? ⟨gb712, 6, none⟩ = some (.int .i64 a1_6) := (blk_cell BK712.out 6).trans rfl; have hfz25_0 := blk_frozen BK712.out 0; have hfz25_1 := blk_frozen BK712.out 1; have hfz25_2 := blk_frozen BK712.out 2; have hfz25_3 := blk_frozen BK712.out 3; have hfz25_4 := blk_frozen BK712.out 4; have hfz25_5 := blk_frozen BK712.out 5; have hfz25_6 := blk_frozen BK712.out 6) | (go_at_call 65; (with_reducible refine (changeoverref23_Place.calls kj2 _ _ l0 a1_3 t727 _ ?side1 ?side2 A18.out).mono ?_); (case side1 => exact Kd.C_below HR0.out (by repeat (first | (with_reducible first | exact HB.out | apply below_alloc | apply pw_below_drewN | apply below_drew1 | refine below_set ?_ GE712.out | refine below_set ?_ GE726.out) | exact HB.out))); (case side2 => exact HC0.out); rintro e w' ⟨rfl, ⟨nd, rfl⟩⟩; (try first | exact ⟨rfl, _, World.drewN_drewN _ _ _⟩ | exact ⟨rfl, _, Eq.trans (World.drewN_drewN _ _ _) (congrArg (World.drewN _) (Nat.add_assoc _ _ _))⟩)))
        repeat (go_quiet (first | (go_at_call 64; (with_reducible refine (kvtwo_Do.calls kj2 _ _ l0 5 a1_1 a1_2 a1_3 a1_4 a1_5 a1_6 t717 t720 t721 t722 t723 t724 t725 _ ?side1 ?side2 A17.out).mono ?_); (case side1 => exact Kd.C_below HR0.out (by repeat (first | (with_reducible first | exact HB.out | apply below_alloc | apply pw_below_drewN | apply below_drew1 | refine below_set ?_ GE712.out) | exact HB.out))); (case side2 => exact HC0.out); rintro e w21 ⟨v718, rfl, ho0, hb⟩; have n0_ := Aside0.mk (Kd.R_lower ho0 (below_size (by repeat (first | (with_reducible first | exact HB.out | apply below_alloc | apply pw_below_drewN | apply below_drew1 | refine below_set ?_ GE712.out) | exact HB.out)))); have n1_ := Aside0.mk (blk_below (g := gb712) (o := .cells #[.int .i64 5, .int .i64 a1_1, .int .i64 a1_2, .string a1_3, .string a1_4, .string a1_5, .int .i64 a1_6] 72 (0, 0)) (by (with_reducible repeat (first | refine blk_drewN ?_ _ | refine blk_drew ?_ | refine blk_alloc ?_ _)); refine blk_put (cs := #[.int .i64 a1_0, .int .i64 a1_1, .int .i64 a1_2, .string a1_3, .string a1_4, .string a1_5, .int .i64 a1_6]) ?_ 0 _ rfl; (with_reducible repeat (first | refine blk_drewN ?_ _ | refine blk_drew ?_ | refine blk_alloc ?_ _)); exact BK712.out) hb); have n2_ := Aside0.mk (below_step (by repeat (first | (with_reducible first | exact HB.out | apply below_alloc | apply pw_below_drewN | apply below_drew1 | refine below_set ?_ GE712.out) | exact HB.out)) hb); clear BK712; clear HB; have HO719 := n0_; have BK712 := n1_; have HB := n2_; clear n0_ n1_ n2_; (try clear hb); (try clear hb2); (try clear hk); (try clear hi); (try clear ho0)) | ((with_reducible refine gate_dst (N := 6) rfl ?_); (try (refine gate_guard (by rfl) ?_; dsimp only)); refine box_event ?hg (N := 6) ?hd (cs := #[.int .i64 0, .int .i64 0, .int .i64 0, .bool false, .string (⟨#[]⟩ : ByteArray), .int .i64 0]) (t := 60) ?hr ?_; (case hd => rfl); (case hg => rfl); (case hr => first | (go_simp; done) | (go_simp; rfl)); intro gb726 hg w22 hbox hb; have n0_ := Aside0.mk (Kd.R_below (by (with_reducible repeat (first | apply Kd.R_alloc | apply Kd.R_drewN | apply Kd.R_drew)); exact HO719.out) hb); have n1_ := Aside0.mk (blk_below (g := gb712) (o := .cells #[.int .i64 5, .int .i64 a1_1, .int .i64 a1_2, .string a1_3, .string a1_4, .string a1_5, .int .i64 a1_6] 72 (0, 0)) (by (with_reducible repeat (first | refine blk_drewN ?_ _ | refine blk_drew ?_ | refine blk_alloc ?_ _)); exact BK712.out) hb); have n2_ := Aside0.mk (below_step (by repeat (first | (with_reducible first | exact HB.out | apply below_alloc | apply pw_below_drewN | apply below_drew1 | refine below_set ?_ GE712.out) | exact HB.out)) hb); have n3_ := Aside0.mk (hbox); have n4_ := Aside0.mk ((by rw [hg]; exact (below_size (by repeat (first | (with_reducible first | exact HB.out | apply below_alloc | apply pw_below_drewN | apply below_drew1 | refine below_set ?_ GE712.out) | exact HB.out))) : w.heap.size ≤ gb726)); have n5_ := Aside0.mk ((by rw [hg]; exact (below_size (by repeat (first | (with_reducible first | exact HB.out | apply below_alloc | apply pw_below_drewN | apply below_drew1 | refine below_set ?_ GE712.out) | exact HB.out))) : w.heap.size ≤ gb726)); have n6_ := Aside0.mk ((by rw [hg]; exact Nat.ne_of_lt (blk_lt (g := gb712) (o := .cells #[.int .i64 5, .int .i64 a1_1, .int .i64 a1_2, .string a1_3, .string a1_4, .string a1_5, .int .i64 a1_6] 72 (0, 0)) (by (with_reducible repeat (first | refine blk_drewN ?_ _ | refine blk_drew ?_ | refine blk_alloc ?_ _)); exact BK712.out)) : gb712 ≠ gb726)); have n7_ := Aside0.mk ((by rw [hg]; exact Nat.ne_of_gt (blk_lt (g := gb712) (o := .cells #[.int .i64 5, .int .i64 a1_1, .int .i64 a1_2, .string a1_3, .string a1_4, .string a1_5, .int .i64 a1_6] 72 (0, 0)) (by (with_reducible repeat (first | refine blk_drewN ?_ _ | refine blk_drew ?_ | refine blk_alloc ?_ _)); exact BK712.out)) : gb726 ≠ gb712)); clear HO719; clear BK712; clear HB; have HO719 := n0_; have BK712 := n1_; have HB := n2_; have BK726 := n3_; have GW726 := n4_; have GE726 := n5_; have NB712_726 := n6_; have NB726_712 := n7_; clear n0_ n1_ n2_ n3_ n4_ n5_ n6_ n7_; clear hb hbox hg; have hnb23 := NB726_712.out; have hnc23 := NB712_726.out; have hcz24_0 : w22.cell? ⟨gb726, 0, none⟩ = some (.int .i64 0) := (blk_cell BK726.out 0).trans rfl; have hcz24_1 : w22.cell? ⟨gb726, 1, none⟩ = some (.int .i64 0) := (blk_cell BK726.out 1).trans rfl; have hcz24_2 : w22.cell? ⟨gb726, 2, none⟩ = some (.int .i64 0) := (blk_cell BK726.out 2).trans rfl; have hcz24_3 : w22.cell? ⟨gb726, 3, none⟩ = some (.bool false) := (blk_cell BK726.out 3).trans rfl; have hcz24_4 : w22.cell? ⟨gb726, 4, none⟩ = some (.string (⟨#[]⟩ : ByteArray)) := (blk_cell BK726.out 4).trans rfl; have hcz24_5 : w22.cell? ⟨gb726, 5, none⟩ = some (.int .i64 0) := (blk_cell BK726.out 5).trans rfl; have hfz24_0 := blk_frozen BK726.out 0; have hfz24_1 := blk_frozen BK726.out 1; have hfz24_2 := blk_frozen BK726.out 2; have hfz24_3 := blk_frozen BK726.out 3; have hfz24_4 := blk_frozen BK726.out 4; have hfz24_5 := blk_frozen BK726.out 5; have hcz25_0 : w22.cell? ⟨gb712, 0, none⟩ = some (.int .i64 5) := (blk_cell BK712.out 0).trans rfl; have hcz25_1 : w22.cell? ⟨gb712, 1, none⟩ = some (.int .i64 a1_1) := (blk_cell BK712.out 1).trans rfl; have hcz25_2 : w22.cell? ⟨gb712, 2, none⟩ = some (.int .i64 a1_2) := (blk_cell BK712.out 2).trans rfl; have hcz25_3 : w22.cell? ⟨gb712, 3, none⟩ = some (.string a1_3) := (blk_cell BK712.out 3).trans rfl; have hcz25_4 : w22.cell? ⟨gb712, 4, none⟩ = some (.string a1_4) := (blk_cell BK712.out 4).trans rfl; have hcz25_5 : w22.cell? ⟨gb712, 5, none⟩ = some (.string a1_5) := (blk_cell BK712.out 5).trans rfl; have hcz25_6 : w22.cell? ⟨gb712, 6, none⟩ = some (.int .i64 a1_6) := (blk_cell BK712.out 6).trans rfl; have hfz25_0 := blk_frozen BK712.out 0; have hfz25_1 := blk_frozen BK712.out 1; have hfz25_2 := blk_frozen BK712.out 2; have hfz25_3 := blk_frozen BK712.out 3; have hfz25_4 := blk_frozen BK712.out 4; have hfz25_5 := blk_frozen BK712.out 5; have hfz25_6 := blk_frozen BK712.out 6) | (go_at_call 65; (with_reducible refine (changeoverref23_Place.calls kj2 _ _ l0 a1_3 t727 _ ?side1 ?side2 A18.out).mono ?_); (case side1 => exact Kd.C_below HR0.out (by repeat (first | (with_reducible first | exact HB.out | apply below_alloc | apply pw_below_drewN | apply below_drew1 | refine below_set ?_ GE712.out | refine below_set ?_ GE726.out) | exact HB.out))); (case side2 => exact HC0.out); rintro e w' ⟨rfl, ⟨nd, rfl⟩⟩; (try first | exact ⟨rfl, _, World.drewN_drewN _ _ _⟩ | exact ⟨rfl, _, Eq.trans (World.drewN_drewN _ _ _) (congrArg (World.drewN _) (Nat.add_assoc _ _ _))⟩))); go_upto_region 6 with (first | (go_at_call 64; (with_reducible refine (kvtwo_Do.calls kj2 _ _ l0 5 a1_1 a1_2 a1_3 a1_4 a1_5 a1_6 t717 t720 t721 t722 t723 t724 t725 _ ?side1 ?side2 A17.out).mono ?_); (case side1 => exact Kd.C_below HR0.out (by repeat (first | (with_reducible first | exact HB.out | apply below_alloc | apply pw_below_drewN | apply below_drew1 | refine below_set ?_ GE712.out) | exact HB.out))); (case side2 => exact HC0.out); rintro e w21 ⟨v718, rfl, ho0, hb⟩; have n0_ := Aside0.mk (Kd.R_lower ho0 (below_size (by repeat (first | (with_reducible first | exact HB.out | apply below_alloc | apply pw_below_drewN | apply below_drew1 | refine below_set ?_ GE712.out) | exact HB.out)))); have n1_ := Aside0.mk (blk_below (g := gb712) (o := .cells #[.int .i64 5, .int .i64 a1_1, .int .i64 a1_2, .string a1_3, .string a1_4, .string a1_5, .int .i64 a1_6] 72 (0, 0)) (by (with_reducible repeat (first | refine blk_drewN ?_ _ | refine blk_drew ?_ | refine blk_alloc ?_ _)); refine blk_put (cs := #[.int .i64 a1_0, .int .i64 a1_1, .int .i64 a1_2, .string a1_3, .string a1_4, .string a1_5, .int .i64 a1_6]) ?_ 0 _ rfl; (with_reducible repeat (first | refine blk_drewN ?_ _ | refine blk_drew ?_ | refine blk_alloc ?_ _)); exact BK712.out) hb); have n2_ := Aside0.mk (below_step (by repeat (first | (with_reducible first | exact HB.out | apply below_alloc | apply pw_below_drewN | apply below_drew1 | refine below_set ?_ GE712.out) | exact HB.out)) hb); clear BK712; clear HB; have HO719 := n0_; have BK712 := n1_; have HB := n2_; clear n0_ n1_ n2_; (try clear hb); (try clear hb2); (try clear hk); (try clear hi); (try clear ho0)) | ((with_reducible refine gate_dst (N := 6) rfl ?_); (try (refine gate_guard (by rfl) ?_; dsimp only)); refine box_event ?hg (N := 6) ?hd (cs := #[.int .i64 0, .int .i64 0, .int .i64 0, .bool false, .string (⟨#[]⟩ : ByteArray), .int .i64 0]) (t := 60) ?hr ?_; (case hd => rfl); (case hg => rfl); (case hr => first | (go_simp; done) | (go_simp; rfl)); intro gb726 hg w22 hbox hb; have n0_ := Aside0.mk (Kd.R_below (by (with_reducible repeat (first | apply Kd.R_alloc | apply Kd.R_drewN | apply Kd.R_drew)); exact HO719.out) hb); have n1_ := Aside0.mk (blk_below (g := gb712) (o := .cells #[.int .i64 5, .int .i64 a1_1, .int .i64 a1_2, .string a1_3, .string a1_4, .string a1_5, .int .i64 a1_6] 72 (0, 0)) (by (with_reducible repeat (first | refine blk_drewN ?_ _ | refine blk_drew ?_ | refine blk_alloc ?_ _)); exact BK712.out) hb); have n2_ := Aside0.mk (below_step (by repeat (first | (with_reducible first | exact HB.out | apply below_alloc | apply pw_below_drewN | apply below_drew1 | refine below_set ?_ GE712.out) | exact HB.out)) hb); have n3_ := Aside0.mk (hbox); have n4_ := Aside0.mk ((by rw [hg]; exact (below_size (by repeat (first | (with_reducible first | exact HB.out | apply below_alloc | apply pw_below_drewN | apply below_drew1 | refine below_set ?_ GE712.out) | exact HB.out))) : w.heap.size ≤ gb726)); have n5_ := Aside0.mk ((by rw [hg]; exact (below_size (by repeat (first | (with_reducible first | exact HB.out | apply below_alloc | apply pw_below_drewN | apply below_drew1 | refine below_set ?_ GE712.out) | exact HB.out))) : w.heap.size ≤ gb726)); have n6_ := Aside0.mk ((by rw [hg]; exact Nat.ne_of_lt (blk_lt (g := gb712) (o := .cells #[.int .i64 5, .int .i64 a1_1, .int .i64 a1_2, .string a1_3, .string a1_4, .string a1_5, .int .i64 a1_6] 72 (0, 0)) (by (with_reducible repeat (first | refine blk_drewN ?_ _ | refine blk_drew ?_ | refine blk_alloc ?_ _)); exact BK712.out)) : gb712 ≠ gb726)); have n7_ := Aside0.mk ((by rw [hg]; exact Nat.ne_of_gt (blk_lt (g := gb712) (o := .cells #[.int .i64 5, .int .i64 a1_1, .int .i64 a1_2, .string a1_3, .string a1_4, .string a1_5, .int .i64 a1_6] 72 (0, 0)) (by (with_reducible repeat (first | refine blk_drewN ?_ _ | refine blk_drew ?_ | refine blk_alloc ?_ _)); exact BK712.out)) : gb726 ≠ gb712)); clear HO719; clear BK712; clear HB; have HO719 := n0_; have BK712 := n1_; have HB := n2_; have BK726 := n3_; have GW726 := n4_; have GE726 := n5_; have NB712_726 := n6_; have NB726_712 := n7_; clear n0_ n1_ n2_ n3_ n4_ n5_ n6_ n7_; clear hb hbox hg; have hnb23 := NB726_712.out; have hnc23 := NB712_726.out; have hcz24_0 : w22.cell? ⟨gb726, 0, none⟩ = some (.int .i64 0) := (blk_cell BK726.out 0).trans rfl; have hcz24_1 : w22.cell? ⟨gb726, 1, none⟩ = some (.int .i64 0) := (blk_cell BK726.out 1).trans rfl; have hcz24_2 : w22.cell? ⟨gb726, 2, none⟩ = some (.int .i64 0) := (blk_cell BK726.out 2).trans rfl; have hcz24_3 : w22.cell? ⟨gb726, 3, none⟩ = some (.bool false) := (blk_cell BK726.out 3).trans rfl; have hcz24_4 : w22.cell? ⟨gb726, 4, none⟩ = some (.string (⟨#[]⟩ : ByteArray)) := (blk_cell BK726.out 4).trans rfl; have hcz24_5 : w22.cell? ⟨gb726, 5, none⟩ = some (.int .i64 0) := (blk_cell BK726.out 5).trans rfl; have hfz24_0 := blk_frozen BK726.out 0; have hfz24_1 := blk_frozen BK726.out 1; have hfz24_2 := blk_frozen BK726.out 2; have hfz24_3 := blk_frozen BK726.out 3; have hfz24_4 := blk_frozen BK726.out 4; have hfz24_5 := blk_frozen BK726.out 5; have hcz25_0 : w22.cell? ⟨gb712, 0, none⟩ = some (.int .i64 5) := (blk_cell BK712.out 0).trans rfl; have hcz25_1 : w22.cell? ⟨gb712, 1, none⟩ = some (.int .i64 a1_1) := (blk_cell BK712.out 1).trans rfl; have hcz25_2 : w22.cell? ⟨gb712, 2, none⟩ = some (.int .i64 a1_2) := (blk_cell BK712.out 2).trans rfl; have hcz25_3 : w22.cell? ⟨gb712, 3, none⟩ = some (.string a1_3) := (blk_cell BK712.out 3).trans rfl; have hcz25_4 : w22.cell? ⟨gb712, 4, none⟩ = some (.string a1_4) := (blk_cell BK712.out 4).trans rfl; have hcz25_5 : w22.cell? ⟨gb712, 5, none⟩ = some (.string a1_5) := (blk_cell BK712.out 5).trans rfl; have hcz25_6 : w22.cell? ⟨gb712, 6, none⟩ = some (.int .i64 a1_6) := (blk_cell BK712.out 6).trans rfl; have hfz25_0 := blk_frozen BK712.out 0; have hfz25_1 := blk_frozen BK712.out 1; have hfz25_2 := blk_frozen BK712.out 2; have hfz25_3 := blk_frozen BK712.out 3; have hfz25_4 := blk_frozen BK712.out 4; have hfz25_5 := blk_frozen BK712.out 5; have hfz25_6 := blk_frozen BK712.out 6) | (go_at_call 65; (with_reducible refine (changeoverref23_Place.calls kj2 _ _ l0 a1_3 t727 _ ?side1 ?side2 A18.out).mono ?_); (case side1 => exact Kd.C_below HR0.out (by repeat (first | (with_reducible first | exact HB.out | apply below_alloc | apply pw_below_drewN | apply below_drew1 | refine below_set ?_ GE712.out | refine below_set ?_ GE726.out) | exact HB.out))); (case side2 => exact HC0.out); rintro e w' ⟨rfl, ⟨nd, rfl⟩⟩; (try first | exact ⟨rfl, _, World.drewN_drewN _ _ _⟩ | exact ⟨rfl, _, Eq.trans (World.drewN_drewN _ _ _) (congrArg (World.drewN _) (Nat.add_assoc _ _ _))⟩))))
        (try simp only [Act.put, List.setIfInBounds_toArray, List.set_cons_zero, List.set_cons_succ])
        go_cut [8] (fun v8 wc => ∃ (kq : Nat) (x8_18 : Bool), v8 = .bool x8_18 ∧ Aside0 (changeoverlaw24_KvtwoCas.j1 kq l0 t717 t727 x8_18 5 a1_1 a1_2 a1_3 a1_4 a1_5 a1_6 t720 t721 t722 t723 t724 t725 = some r) ∧ Aside0 (kq ≤ kj2) ∧ Aside0 (Kd.R k78 78 wc w.heap.size (fun _ => True) v718 t717) ∧ Aside0 (wc.heap[gb712]? = some (.cells #[.int .i64 5, .int .i64 a1_1, .int .i64 a1_2, .string a1_3, .string a1_4, .string a1_5, .int .i64 a1_6] 72 (0, 0))) ∧ Aside0 (wc.heap[gb726]? = some (.cells #[.int .i64 t720, .int .i64 t721, .int .i64 t722, .bool t723, .string t724, .int .i64 t725] 60 (0, 0))) ∧ Aside0 (Below w.heap.size w wc))
        case first =>
          have H := HC19.out
          clear HC19
          by_cases c26 : t727 ≥ 0
          · rw [if_pos c26] at H
            have c26b0 : decide (0 ≤ t727) = true := decide_eq_true c26
            clear c26
            (first | rw [c26b0] | (simp only [i64_w, i32_w]; rw [c26b0]) | skip)
            by_cases c27 : 0 ≤ t727
            · rw [if_pos c27] at H
              have c27b0 : decide (0 ≤ t727) = true := decide_eq_true c27
              clear c27
              by_cases c28 : t727 < (l0.length : Int)
              · rw [if_pos c28] at H
                have c28b0 : decide (t727 < (l0.length : Int)) = true := decide_eq_true c28
                clear c28
                have H' := Aside0.mk H
                clear H
                have p728 : 0 ≤ (t727 : Int) := of_decide_eq_true (by first | (with_reducible assumption) | assumption)
                have q728 : t727 < (l0.length : Int) := of_decide_eq_true (by first | (with_reducible assumption) | assumption)
                obtain ⟨ad728, e728, hx728_0, hx728_1, hx728_2⟩ := at_T78 HR0.out t727 p728 q728
                cases e728
                have hn728_0 : ad728.block ≠ gb726 := Nat.ne_of_lt (Nat.lt_of_lt_of_le (by have := World.block_lt_of_cell? _ _ hx728_0; first | rwa [add_block] at this | exact this) GW726.out)
                have hn728_1 : ad728.block ≠ gb726 := Nat.ne_of_lt (Nat.lt_of_lt_of_le (by have := World.block_lt_of_cell? _ _ hx728_0; first | rwa [add_block] at this | exact this) GW726.out)
                have hn728_2 : ad728.block ≠ gb726 := Nat.ne_of_lt (Nat.lt_of_lt_of_le (by have := World.block_lt_of_cell? _ _ hx728_0; first | rwa [add_block] at this | exact this) GW726.out)
                have hn728_3 : ad728.block ≠ gb726 := Nat.ne_of_lt (Nat.lt_of_lt_of_le (by have := World.block_lt_of_cell? _ _ hx728_0; first | rwa [add_block] at this | exact this) GW726.out)
                have hn728_4 : ad728.block ≠ gb726 := Nat.ne_of_lt (Nat.lt_of_lt_of_le (by have := World.block_lt_of_cell? _ _ hx728_0; first | rwa [add_block] at this | exact this) GW726.out)
                have hn728_5 : ad728.block ≠ gb726 := Nat.ne_of_lt (Nat.lt_of_lt_of_le (by have := World.block_lt_of_cell? _ _ hx728_0; first | rwa [add_block] at this | exact this) GW726.out)
                replace hx728_0 := (HB.out.cell (World.block_lt_of_cell? w _ hx728_0)).trans hx728_0
                replace hx728_1 := (HB.out.cell (World.block_lt_of_cell? w _ hx728_1)).trans hx728_1
                replace hx728_2 := (HB.out.cell (World.block_lt_of_cell? w _ hx728_2)).trans hx728_2
                replace hx728_0 := (cell_far (p := ⟨gb726, 0, none⟩) (by first | (rw [add_block]; exact hn728_0) | (show (Addr.add _ _).block ≠ _; rw [add_block]; exact hn728_0) | exact hn728_0) (.int .i64 t720)).trans hx728_0
                replace hx728_1 := (cell_far (p := ⟨gb726, 0, none⟩) (by first | (rw [add_block]; exact hn728_0) | (show (Addr.add _ _).block ≠ _; rw [add_block]; exact hn728_0) | exact hn728_0) (.int .i64 t720)).trans hx728_1
                replace hx728_2 := (cell_far (p := ⟨gb726, 0, none⟩) (by first | (rw [add_block]; exact hn728_0) | (show (Addr.add _ _).block ≠ _; rw [add_block]; exact hn728_0) | exact hn728_0) (.int .i64 t720)).trans hx728_2
                replace hx728_0 := (cell_far (p := ⟨gb726, 1, none⟩) (by first | (rw [add_block]; exact hn728_1) | (show (Addr.add _ _).block ≠ _; rw [add_block]; exact hn728_1) | exact hn728_1) (.int .i64 t721)).trans hx728_0
                replace hx728_1 := (cell_far (p := ⟨gb726, 1, none⟩) (by first | (rw [add_block]; exact hn728_1) | (show (Addr.add _ _).block ≠ _; rw [add_block]; exact hn728_1) | exact hn728_1) (.int .i64 t721)).trans hx728_1
                replace hx728_2 := (cell_far (p := ⟨gb726, 1, none⟩) (by first | (rw [add_block]; exact hn728_1) | (show (Addr.add _ _).block ≠ _; rw [add_block]; exact hn728_1) | exact hn728_1) (.int .i64 t721)).trans hx728_2
                replace hx728_0 := (cell_far (p := ⟨gb726, 2, none⟩) (by first | (rw [add_block]; exact hn728_2) | (show (Addr.add _ _).block ≠ _; rw [add_block]; exact hn728_2) | exact hn728_2) (.int .i64 t722)).trans hx728_0
                replace hx728_1 := (cell_far (p := ⟨gb726, 2, none⟩) (by first | (rw [add_block]; exact hn728_2) | (show (Addr.add _ _).block ≠ _; rw [add_block]; exact hn728_2) | exact hn728_2) (.int .i64 t722)).trans hx728_1
                replace hx728_2 := (cell_far (p := ⟨gb726, 2, none⟩) (by first | (rw [add_block]; exact hn728_2) | (show (Addr.add _ _).block ≠ _; rw [add_block]; exact hn728_2) | exact hn728_2) (.int .i64 t722)).trans hx728_2
                replace hx728_0 := (cell_far (p := ⟨gb726, 3, none⟩) (by first | (rw [add_block]; exact hn728_3) | (show (Addr.add _ _).block ≠ _; rw [add_block]; exact hn728_3) | exact hn728_3) (.bool t723)).trans hx728_0
                replace hx728_1 := (cell_far (p := ⟨gb726, 3, none⟩) (by first | (rw [add_block]; exact hn728_3) | (show (Addr.add _ _).block ≠ _; rw [add_block]; exact hn728_3) | exact hn728_3) (.bool t723)).trans hx728_1
                replace hx728_2 := (cell_far (p := ⟨gb726, 3, none⟩) (by first | (rw [add_block]; exact hn728_3) | (show (Addr.add _ _).block ≠ _; rw [add_block]; exact hn728_3) | exact hn728_3) (.bool t723)).trans hx728_2
                replace hx728_0 := (cell_far (p := ⟨gb726, 4, none⟩) (by first | (rw [add_block]; exact hn728_4) | (show (Addr.add _ _).block ≠ _; rw [add_block]; exact hn728_4) | exact hn728_4) (.string t724)).trans hx728_0
                replace hx728_1 := (cell_far (p := ⟨gb726, 4, none⟩) (by first | (rw [add_block]; exact hn728_4) | (show (Addr.add _ _).block ≠ _; rw [add_block]; exact hn728_4) | exact hn728_4) (.string t724)).trans hx728_1
                replace hx728_2 := (cell_far (p := ⟨gb726, 4, none⟩) (by first | (rw [add_block]; exact hn728_4) | (show (Addr.add _ _).block ≠ _; rw [add_block]; exact hn728_4) | exact hn728_4) (.string t724)).trans hx728_2
                replace hx728_0 := (cell_far (p := ⟨gb726, 5, none⟩) (by first | (rw [add_block]; exact hn728_5) | (show (Addr.add _ _).block ≠ _; rw [add_block]; exact hn728_5) | exact hn728_5) (.int .i64 t725)).trans hx728_0
                replace hx728_1 := (cell_far (p := ⟨gb726, 5, none⟩) (by first | (rw [add_block]; exact hn728_5) | (show (Addr.add _ _).block ≠ _; rw [add_block]; exact hn728_5) | exact hn728_5) (.int .i64 t725)).trans hx728_1
                replace hx728_2 := (cell_far (p := ⟨gb726, 5, none⟩) (by first | (rw [add_block]; exact hn728_5) | (show (Addr.add _ _).block ≠ _; rw [add_block]; exact hn728_5) | exact hn728_5) (.int .i64 t725)).trans hx728_2
                (try have hy728_0 := fun (n_ : Nat) => (cell_drawn (A := (((((((w22.drewN n_).setCell ⟨gb726, 0, none⟩ (.int .i64 t720)).setCell ⟨gb726, 1, none⟩ (.int .i64 t721)).setCell ⟨gb726, 2, none⟩ (.int .i64 t722)).setCell ⟨gb726, 3, none⟩ (.bool t723)).setCell ⟨gb726, 4, none⟩ (.string t724)).setCell ⟨gb726, 5, none⟩ (.int .i64 t725))) (n := n_) (by simp only [setCell_drawn]) hx728_0))
                (try have hy728_1 := fun (n_ : Nat) => (cell_drawn (A := (((((((w22.drewN n_).setCell ⟨gb726, 0, none⟩ (.int .i64 t720)).setCell ⟨gb726, 1, none⟩ (.int .i64 t721)).setCell ⟨gb726, 2, none⟩ (.int .i64 t722)).setCell ⟨gb726, 3, none⟩ (.bool t723)).setCell ⟨gb726, 4, none⟩ (.string t724)).setCell ⟨gb726, 5, none⟩ (.int .i64 t725))) (n := n_) (by simp only [setCell_drawn]) hx728_1))
                (try have hy728_2 := fun (n_ : Nat) => (cell_drawn (A := (((((((w22.drewN n_).setCell ⟨gb726, 0, none⟩ (.int .i64 t720)).setCell ⟨gb726, 1, none⟩ (.int .i64 t721)).setCell ⟨gb726, 2, none⟩ (.int .i64 t722)).setCell ⟨gb726, 3, none⟩ (.bool t723)).setCell ⟨gb726, 4, none⟩ (.string t724)).setCell ⟨gb726, 5, none⟩ (.int .i64 t725))) (n := n_) (by simp only [setCell_drawn]) hx728_2))
                clear hn728_0
                clear hn728_1
                clear hn728_2
                clear hn728_3
                clear hn728_4
                clear hn728_5
                replace p728 := eq_true p728
                replace q728 := eq_true q728
                have hnb29 := NB712_726.out
                have hnc29 := NB726_712.out
                have hcz30_0 : w22.cell? ⟨gb712, 0, none⟩ = some (.int .i64 5) := (blk_cell BK712.out 0).trans rfl
                have hcz30_1 : w22.cell? ⟨gb712, 1, none⟩ = some (.int .i64 a1_1) := (blk_cell BK712.out 1).trans rfl
                have hcz30_2 : w22.cell? ⟨gb712, 2, none⟩ = some (.int .i64 a1_2) := (blk_cell BK712.out 2).trans rfl
                have hcz30_3 : w22.cell? ⟨gb712, 3, none⟩ = some (.string a1_3) := (blk_cell BK712.out 3).trans rfl
                have hcz30_4 : w22.cell? ⟨gb712, 4, none⟩ = some (.string a1_4) := (blk_cell BK712.out 4).trans rfl
                have hcz30_5 : w22.cell? ⟨gb712, 5, none⟩ = some (.string a1_5) := (blk_cell BK712.out 5).trans rfl
                have hcz30_6 : w22.cell? ⟨gb712, 6, none⟩ = some (.int .i64 a1_6) := (blk_cell BK712.out 6).trans rfl
                have hfz30_0 := blk_frozen BK712.out 0
                have hfz30_1 := blk_frozen BK712.out 1
                have hfz30_2 := blk_frozen BK712.out 2
                have hfz30_3 := blk_frozen BK712.out 3
                have hfz30_4 := blk_frozen BK712.out 4
                have hfz30_5 := blk_frozen BK712.out 5
                have hfz30_6 := blk_frozen BK712.out 6
                go_wp2
                repeat (go_quiet (fail); try go_wp2)
                go_meet
                case rel => exact ⟨_, ((((rd_T78 l0 t727).f1).toList == a1_5.toList)), (by first | rfl | (simp; done) | (simp [*]; done)), H', ⟨by have := HJ2.out; first | omega | exact Nat.le_refl _⟩, ⟨by (with_reducible repeat (first | apply Kd.R_alloc | apply Kd.R_drewN | apply Kd.R_drew)); exact Kd.R_mono (Kd.R_far (p := ⟨gb726, 5, none⟩) (Kd.R_far (p := ⟨gb726, 4, none⟩) (Kd.R_far (p := ⟨gb726, 3, none⟩) (Kd.R_far (p := ⟨gb726, 2, none⟩) (Kd.R_far (p := ⟨gb726, 1, none⟩) (Kd.R_far (p := ⟨gb726, 0, none⟩) (Kd.R_types HO719.out BK726.out (by decide)) (fun _ hk => hk.2) (.int .i64 t720)) (fun _ hk => hk.2) (.int .i64 t721)) (fun _ hk => hk.2) (.int .i64 t722)) (fun _ hk => hk.2) (.bool t723)) (fun _ hk => hk.2) (.string t724)) (fun _ hk => hk.2) (.int .i64 t725)) (fun _ hk => trivial)⟩, ⟨by (with_reducible repeat (first | refine blk_drewN ?_ _ | refine blk_drew ?_ | refine blk_alloc ?_ _)); refine blk_far ?_ NB712_726.out _; (with_reducible repeat (first | refine blk_drewN ?_ _ | refine blk_drew ?_ | refine blk_alloc ?_ _)); refine blk_far ?_ NB712_726.out _; (with_reducible repeat (first | refine blk_drewN ?_ _ | refine blk_drew ?_ | refine blk_alloc ?_ _)); refine blk_far ?_ NB712_726.out _; (with_reducible repeat (first | refine blk_drewN ?_ _ | refine blk_drew ?_ | refine blk_alloc ?_ _)); refine blk_far ?_ NB712_726.out _; (with_reducible repeat (first | refine blk_drewN ?_ _ | refine blk_drew ?_ | refine blk_alloc ?_ _)); refine blk_far ?_ NB712_726.out _; (with_reducible repeat (first | refine blk_drewN ?_ _ | refine blk_drew ?_ | refine blk_alloc ?_ _)); refine blk_far ?_ NB712_726.out _; (with_reducible repeat (first | refine blk_drewN ?_ _ | refine blk_drew ?_ | refine blk_alloc ?_ _)); exact BK712.out⟩, ⟨by (with_reducible repeat (first | refine blk_drewN ?_ _ | refine blk_drew ?_ | refine blk_alloc ?_ _)); refine blk_put (cs := #[.int .i64 t720, .int .i64 t721, .int .i64 t722, .bool t723, .string t724, .int .i64 0]) ?_ 5 _ rfl; (with_reducible repeat (first | refine blk_drewN ?_ _ | refine blk_drew ?_ | refine blk_alloc ?_ _)); refine blk_put (cs := #[.int .i64 t720, .int .i64 t721, .int .i64 t722, .bool t723, .string (⟨#[]⟩ : ByteArray), .int .i64 0]) ?_ 4 _ rfl; (with_reducible repeat (first | refine blk_drewN ?_ _ | refine blk_drew ?_ | refine blk_alloc ?_ _)); refine blk_put (cs := #[.int .i64 t720, .int .i64 t721, .int .i64 t722, .bool false, .string (⟨#[]⟩ : ByteArray), .int .i64 0]) ?_ 3 _ rfl; (with_reducible repeat (first | refine blk_drewN ?_ _ | refine blk_drew ?_ | refine blk_alloc ?_ _)); refine blk_put (cs := #[.int .i64 t720, .int .i64 t721, .int .i64 0, .bool false, .string (⟨#[]⟩ : ByteArray), .int .i64 0]) ?_ 2 _ rfl; (with_reducible repeat (first | refine blk_drewN ?_ _ | refine blk_drew ?_ | refine blk_alloc ?_ _)); refine blk_put (cs := #[.int .i64 t720, .int .i64 0, .int .i64 0, .bool false, .string (⟨#[]⟩ : ByteArray), .int .i64 0]) ?_ 1 _ rfl; (with_reducible repeat (first | refine blk_drewN ?_ _ | refine blk_drew ?_ | refine blk_alloc ?_ _)); refine blk_put (cs := #[.int .i64 0, .int .i64 0, .int .i64 0, .bool false, .string (⟨#[]⟩ : ByteArray), .int .i64 0]) ?_ 0 _ rfl; (with_reducible repeat (first | refine blk_drewN ?_ _ | refine blk_drew ?_ | refine blk_alloc ?_ _)); exact BK726.out⟩, ⟨by repeat (first | (with_reducible first | exact HB.out | apply below_alloc | apply pw_below_drewN | apply below_drew1 | refine below_set ?_ GE712.out | refine below_set ?_ GE726.out) | exact HB.out)⟩⟩
              · rw [if_neg c28] at H
                exact absurd H (by simp)
            · rw [if_neg c27] at H
              exact absurd H (by simp)
          · rw [if_neg c26] at H
            have c26b0 : decide (0 ≤ t727) = false := decide_eq_false c26
            clear c26
            (first | rw [c26b0] | (simp only [i64_w, i32_w]; rw [c26b0]) | skip)
            have H' := Aside0.mk H
            clear H
            go_wp2
            repeat (go_quiet (fail); try go_wp2)
            go_meet
            case rel => exact ⟨_, (false), (by first | rfl | (simp; done) | (simp [*]; done)), H', ⟨by have := HJ2.out; first | omega | exact Nat.le_refl _⟩, ⟨by (with_reducible repeat (first | apply Kd.R_alloc | apply Kd.R_drewN | apply Kd.R_drew)); exact Kd.R_mono (Kd.R_far (p := ⟨gb726, 5, none⟩) (Kd.R_far (p := ⟨gb726, 4, none⟩) (Kd.R_far (p := ⟨gb726, 3, none⟩) (Kd.R_far (p := ⟨gb726, 2, none⟩) (Kd.R_far (p := ⟨gb726, 1, none⟩) (Kd.R_far (p := ⟨gb726, 0, none⟩) (Kd.R_types HO719.out BK726.out (by decide)) (fun _ hk => hk.2) (.int .i64 t720)) (fun _ hk => hk.2) (.int .i64 t721)) (fun _ hk => hk.2) (.int .i64 t722)) (fun _ hk => hk.2) (.bool t723)) (fun _ hk => hk.2) (.string t724)) (fun _ hk => hk.2) (.int .i64 t725)) (fun _ hk => trivial)⟩, ⟨by (with_reducible repeat (first | refine blk_drewN ?_ _ | refine blk_drew ?_ | refine blk_alloc ?_ _)); refine blk_far ?_ NB712_726.out _; (with_reducible repeat (first | refine blk_drewN ?_ _ | refine blk_drew ?_ | refine blk_alloc ?_ _)); refine blk_far ?_ NB712_726.out _; (with_reducible repeat (first | refine blk_drewN ?_ _ | refine blk_drew ?_ | refine blk_alloc ?_ _)); refine blk_far ?_ NB712_726.out _; (with_reducible repeat (first | refine blk_drewN ?_ _ | refine blk_drew ?_ | refine blk_alloc ?_ _)); refine blk_far ?_ NB712_726.out _; (with_reducible repeat (first | refine blk_drewN ?_ _ | refine blk_drew ?_ | refine blk_alloc ?_ _)); refine blk_far ?_ NB712_726.out _; (with_reducible repeat (first | refine blk_drewN ?_ _ | refine blk_drew ?_ | refine blk_alloc ?_ _)); refine blk_far ?_ NB712_726.out _; (with_reducible repeat (first | refine blk_drewN ?_ _ | refine blk_drew ?_ | refine blk_alloc ?_ _)); exact BK712.out⟩, ⟨by (with_reducible repeat (first | refine blk_drewN ?_ _ | refine blk_drew ?_ | refine blk_alloc ?_ _)); refine blk_put (cs := #[.int .i64 t720, .int .i64 t721, .int .i64 t722, .bool t723, .string t724, .int .i64 0]) ?_ 5 _ rfl; (with_reducible repeat (first | refine blk_drewN ?_ _ | refine blk_drew ?_ | refine blk_alloc ?_ _)); refine blk_put (cs := #[.int .i64 t720, .int .i64 t721, .int .i64 t722, .bool t723, .string (⟨#[]⟩ : ByteArray), .int .i64 0]) ?_ 4 _ rfl; (with_reducible repeat (first | refine blk_drewN ?_ _ | refine blk_drew ?_ | refine blk_alloc ?_ _)); refine blk_put (cs := #[.int .i64 t720, .int .i64 t721, .int .i64 t722, .bool false, .string (⟨#[]⟩ : ByteArray), .int .i64 0]) ?_ 3 _ rfl; (with_reducible repeat (first | refine blk_drewN ?_ _ | refine blk_drew ?_ | refine blk_alloc ?_ _)); refine blk_put (cs := #[.int .i64 t720, .int .i64 t721, .int .i64 0, .bool false, .string (⟨#[]⟩ : ByteArray), .int .i64 0]) ?_ 2 _ rfl; (with_reducible repeat (first | refine blk_drewN ?_ _ | refine blk_drew ?_ | refine blk_alloc ?_ _)); refine blk_put (cs := #[.int .i64 t720, .int .i64 0, .int .i64 0, .bool false, .string (⟨#[]⟩ : ByteArray), .int .i64 0]) ?_ 1 _ rfl; (with_reducible repeat (first | refine blk_drewN ?_ _ | refine blk_drew ?_ | refine blk_alloc ?_ _)); refine blk_put (cs := #[.int .i64 0, .int .i64 0, .int .i64 0, .bool false, .string (⟨#[]⟩ : ByteArray), .int .i64 0]) ?_ 0 _ rfl; (with_reducible repeat (first | refine blk_drewN ?_ _ | refine blk_drew ?_ | refine blk_alloc ?_ _)); exact BK726.out⟩, ⟨by repeat (first | (with_reducible first | exact HB.out | apply below_alloc | apply pw_below_drewN | apply below_drew1 | refine below_set ?_ GE712.out | refine below_set ?_ GE726.out) | exact HB.out)⟩⟩
        case rest =>
          clear HC19
          try clear c1
          try clear c2
          try clear p2
          try clear c6
          try clear p7
          try clear q7
          try clear hx7
          try clear c8
          try clear c11
          try clear c14
          try clear c23
          try clear c26
          try clear c26b0
          try clear c27
          try clear c27b0
          try clear c28
          try clear c28b0
          try clear c29
          try clear hcz12_0
          try clear hcz12_1
          try clear hcz12_2
          try clear hcz12_3
          try clear hcz12_4
          try clear hcz12_5
          try clear hcz12_6
          try clear hcz20_0
          try clear hcz20_1
          try clear hcz20_2
          try clear hcz20_3
          try clear hcz20_4
          try clear hcz20_5
          try clear hcz20_6
          try clear hcz24_0
          try clear hcz24_1
          try clear hcz24_2
          try clear hcz24_3
          try clear hcz24_4
          try clear hcz24_5
          try clear hcz25_0
          try clear hcz25_1
          try clear hcz25_2
          try clear hcz25_3
          try clear hcz25_4
          try clear hcz25_5
          try clear hcz25_6
          try clear hcz30_0
          try clear hcz30_1
          try clear hcz30_2
          try clear hcz30_3
          try clear hcz30_4
          try clear hcz30_5
          try clear hcz30_6
          try clear hcz9_0
          try clear hcz9_1
          try clear hcz9_2
          try clear hcz9_3
          try clear hcz9_4
          try clear hcz9_5
          try clear hcz9_6
          try clear hfz12_0
          try clear hfz12_1
          try clear hfz12_2
          try clear hfz12_3
          try clear hfz12_4
          try clear hfz12_5
          try clear hfz12_6
          try clear hfz20_0
          try clear hfz20_1
          try clear hfz20_2
          try clear hfz20_3
          try clear hfz20_4
          try clear hfz20_5
          try clear hfz20_6
          try clear hfz24_0
          try clear hfz24_1
          try clear hfz24_2
          try clear hfz24_3
          try clear hfz24_4
          try clear hfz24_5
          try clear hfz25_0
          try clear hfz25_1
          try clear hfz25_2
          try clear hfz25_3
          try clear hfz25_4
          try clear hfz25_5
          try clear hfz25_6
          try clear hfz30_0
          try clear hfz30_1
          try clear hfz30_2
          try clear hfz30_3
          try clear hfz30_4
          try clear hfz30_5
          try clear hfz30_6
          try clear hfz9_0
          try clear hfz9_1
          try clear hfz9_2
          try clear hfz9_3
          try clear hfz9_4
          try clear hfz9_5
          try clear hfz9_6
          try clear hx728_0
          try clear hx728_1
          try clear hx728_2
          try clear p2
          try clear p728
          try clear q728
          obtain ⟨kq, x8_18, rfl, HA, HJ18, HO_5, BK712, BK726, HB⟩ := hcut
          cases kq with
          | zero => exact absurd HA.out (by simp [changeoverlaw24_KvtwoCas.j1])
          | succ kj18 =>
            have H := HA.out
            clear HA
            simp only [changeoverlaw24_KvtwoCas.j1] at H
            have HC31 := Aside0.mk H
            clear H
            go_upto_region 7 with (fail)
            repeat (go_quiet (fail); go_upto_region 7 with (fail))
            go_cut [66] (fun v66 wc => ∃ (kq : Nat) (x66_30 : Bool), v66 = .bool x66_30 ∧ Aside0 (changeoverlaw24_KvtwoCas.j2 kq l0 t717 t727 x8_18 x66_30 5 a1_1 a1_2 a1_3 a1_4 a1_5 a1_6 = some r) ∧ Aside0 (kq ≤ kj18) ∧ Aside0 (Kd.R k78 78 wc w.heap.size (fun _ => True) v718 t717) ∧ Aside0 (wc.heap[gb712]? = some (.cells #[.int .i64 5, .int .i64 a1_1, .int .i64 a1_2, .string a1_3, .string a1_4, .string a1_5, .int .i64 a1_6] 72 (0, 0))) ∧ Aside0 (wc.heap[gb726]? = some (.cells #[.int .i64 t720, .int .i64 t721, .int .i64 t722, .bool t723, .string t724, .int .i64 t725] 60 (0, 0))) ∧ Aside0 (Below w.heap.size w wc))
            case first =>
              have H := HC31.out
              clear HC31
              by_cases c32 : ((t722 == 0) != x8_18) = true
              · rw [if_pos c32] at H
                have c32b0 : ((t722 == 0) != x8_18) = true := c32
                (try (have c32b1 : decide ((t722 == 0) = x8_18) = false := by simpa using c32))
                (try (have c32b2 : ((t722 == 0) == x8_18) = false := by simpa using c32))
                (try (have c32b3 : ¬ ((t722 == 0) = x8_18) := by simpa using c32))
                clear c32
                (first | rw [c32b0] | (simp only [i64_w, i32_w]; rw [c32b0]) | skip)
                have H' := Aside0.mk H
                clear H
                have hnb33 := NB726_712.out
                have hnc33 := NB712_726.out
                have hcz34_0 : wc.cell? ⟨gb726, 0, none⟩ = some (.int .i64 t720) := (blk_cell BK726.out 0).trans rfl
                have hcz34_1 : wc.cell? ⟨gb726, 1, none⟩ = some (.int .i64 t721) := (blk_cell BK726.out 1).trans rfl
                have hcz34_2 : wc.cell? ⟨gb726, 2, none⟩ = some (.int .i64 t722) := (blk_cell BK726.out 2).trans rfl
                have hcz34_3 : wc.cell? ⟨gb726, 3, none⟩ = some (.bool t723) := (blk_cell BK726.out 3).trans rfl
                have hcz34_4 : wc.cell? ⟨gb726, 4, none⟩ = some (.string t724) := (blk_cell BK726.out 4).trans rfl
                have hcz34_5 : wc.cell? ⟨gb726, 5, none⟩ = some (.int .i64 t725) := (blk_cell BK726.out 5).trans rfl
                have hfz34_0 := blk_frozen BK726.out 0
                have hfz34_1 := blk_frozen BK726.out 1
                have hfz34_2 := blk_frozen BK726.out 2
                have hfz34_3 := blk_frozen BK726.out 3
                have hfz34_4 := blk_frozen BK726.out 4
                have hfz34_5 := blk_frozen BK726.out 5
                go_wp2
                repeat (go_quiet (fail); try go_wp2)
                go_meet
                case rel => exact ⟨_, (true), (by first | rfl | (simp; done) | (simp [*]; done)), H', ⟨by have := HJ2.out; have := HJ18.out; first | omega | exact Nat.le_refl _⟩, ⟨by (with_reducible repeat (first | apply Kd.R_alloc | apply Kd.R_drewN | apply Kd.R_drew)); exact HO_5.out⟩, ⟨by (with_reducible repeat (first | refine blk_drewN ?_ _ | refine blk_drew ?_ | refine blk_alloc ?_ _)); exact BK712.out⟩, ⟨by (with_reducible repeat (first | refine blk_drewN ?_ _ | refine blk_drew ?_ | refine blk_alloc ?_ _)); exact BK726.out⟩, ⟨by repeat (first | (with_reducible first | exact HB.out | apply below_alloc | apply pw_below_drewN | apply below_drew1 | refine below_set ?_ GE712.out | refine below_set ?_ GE726.out) | exact HB.out)⟩⟩
              · rw [if_neg c32] at H
                have c32b0 : ((t722 == 0) != x8_18) = false := by simpa using c32
                (try (have c32b1 : decide ((t722 == 0) = x8_18) = true := by simpa using c32))
                (try (have c32b2 : ((t722 == 0) == x8_18) = true := by simpa using c32))
                clear c32
                (first | rw [c32b0] | (simp only [i64_w, i32_w]; rw [c32b0]) | skip)
                by_cases c35 : x8_18 = true
                · subst c35
                  have H1 : (changeoverlaw24_KvtwoCas.j2 kj18 l0 t717 t727 true ((t717.length : Int) != (l0.length : Int)) 5 a1_1 a1_2 a1_3 a1_4 a1_5 a1_6) = some r := by rw [if_pos rfl] at H; exact H
                  clear H
                  have H := H1
                  clear H1
                  have H' := Aside0.mk H
                  clear H
                  have hnb36 := NB726_712.out
                  have hnc36 := NB712_726.out
                  have hcz37_0 : wc.cell? ⟨gb726, 0, none⟩ = some (.int .i64 t720) := (blk_cell BK726.out 0).trans rfl
                  have hcz37_1 : wc.cell? ⟨gb726, 1, none⟩ = some (.int .i64 t721) := (blk_cell BK726.out 1).trans rfl
                  have hcz37_2 : wc.cell? ⟨gb726, 2, none⟩ = some (.int .i64 t722) := (blk_cell BK726.out 2).trans rfl
                  have hcz37_3 : wc.cell? ⟨gb726, 3, none⟩ = some (.bool t723) := (blk_cell BK726.out 3).trans rfl
                  have hcz37_4 : wc.cell? ⟨gb726, 4, none⟩ = some (.string t724) := (blk_cell BK726.out 4).trans rfl
                  have hcz37_5 : wc.cell? ⟨gb726, 5, none⟩ = some (.int .i64 t725) := (blk_cell BK726.out 5).trans rfl
                  have hfz37_0 := blk_frozen BK726.out 0
                  have hfz37_1 := blk_frozen BK726.out 1
                  have hfz37_2 := blk_frozen BK726.out 2
                  have hfz37_3 := blk_frozen BK726.out 3
                  have hfz37_4 := blk_frozen BK726.out 4
                  have hfz37_5 := blk_frozen BK726.out 5
                  obtain ⟨Ao38, co38, eo38⟩ := Kd.R_slice HO_5.out
                  subst eo38
                  go_wp2
                  repeat (go_quiet (fail); try go_wp2)
                  go_meet
                  case rel => exact ⟨_, (((t717.length : Int) != (l0.length : Int))), (by first | rfl | (simp; done) | (simp [*]; done)), H', ⟨by have := HJ2.out; have := HJ18.out; first | omega | exact Nat.le_refl _⟩, ⟨by (with_reducible repeat (first | apply Kd.R_alloc | apply Kd.R_drewN | apply Kd.R_drew)); exact HO_5.out⟩, ⟨by (with_reducible repeat (first | refine blk_drewN ?_ _ | refine blk_drew ?_ | refine blk_alloc ?_ _)); exact BK712.out⟩, ⟨by (with_reducible repeat (first | refine blk_drewN ?_ _ | refine blk_drew ?_ | refine blk_alloc ?_ _)); exact BK726.out⟩, ⟨by repeat (first | (with_reducible first | exact HB.out | apply below_alloc | apply pw_below_drewN | apply below_drew1 | refine below_set ?_ GE712.out | refine below_set ?_ GE726.out) | exact HB.out)⟩⟩
                · replace c35 := Bool.eq_false_iff.mpr c35
                  subst c35
                  have H1 : ((changeoverref23_Same.f kj18 t717 l0).bind fun t729 => (if t729 = true then (changeoverlaw24_KvtwoCas.j2 kj18 l0 t717 t727 false ((t717.length : Int) != (l0.length : Int)) 5 a1_1 a1_2 a1_3 a1_4 a1_5 a1_6) else (changeoverlaw24_KvtwoCas.j2 kj18 l0 t717 t727 false true 5 a1_1 a1_2 a1_3 a1_4 a1_5 a1_6))) = some r := by rw [if_neg (show ¬ (false = true) by decide)] at H; exact H
                  clear H
                  have H := H1
                  clear H1
                  replace H := Option.bind_eq_some_iff.mp H
                  obtain ⟨t729, A390, H⟩ := H
                  replace H : (if t729 = true then (changeoverlaw24_KvtwoCas.j2 kj18 l0 t717 t727 false ((t717.length : Int) != (l0.length : Int)) 5 a1_1 a1_2 a1_3 a1_4 a1_5 a1_6) else (changeoverlaw24_KvtwoCas.j2 kj18 l0 t717 t727 false true 5 a1_1 a1_2 a1_3 a1_4 a1_5 a1_6)) = some r := H
                  have A39 := Aside0.mk A390
                  clear A390
                  by_cases c40 : t729 = true
                  · subst c40
                    have H1 : (changeoverlaw24_KvtwoCas.j2 kj18 l0 t717 t727 false ((t717.length : Int) != (l0.length : Int)) 5 a1_1 a1_2 a1_3 a1_4 a1_5 a1_6) = some r := by rw [if_pos rfl] at H; exact H
                    clear H
                    have H := H1
                    clear H1
                    have H' := Aside0.mk H
                    clear H
                    have hnb41 := NB726_712.out
                    have hnc41 := NB712_726.out
                    have hcz42_0 : wc.cell? ⟨gb726, 0, none⟩ = some (.int .i64 t720) := (blk_cell BK726.out 0).trans rfl
                    have hcz42_1 : wc.cell? ⟨gb726, 1, none⟩ = some (.int .i64 t721) := (blk_cell BK726.out 1).trans rfl
                    have hcz42_2 : wc.cell? ⟨gb726, 2, none⟩ = some (.int .i64 t722) := (blk_cell BK726.out 2).trans rfl
                    have hcz42_3 : wc.cell? ⟨gb726, 3, none⟩ = some (.bool t723) := (blk_cell BK726.out 3).trans rfl
                    have hcz42_4 : wc.cell? ⟨gb726, 4, none⟩ = some (.string t724) := (blk_cell BK726.out 4).trans rfl
                    have hcz42_5 : wc.cell? ⟨gb726, 5, none⟩ = some (.int .i64 t725) := (blk_cell BK726.out 5).trans rfl
                    have hfz42_0 := blk_frozen BK726.out 0
                    have hfz42_1 := blk_frozen BK726.out 1
                    have hfz42_2 := blk_frozen BK726.out 2
                    have hfz42_3 := blk_frozen BK726.out 3
                    have hfz42_4 := blk_frozen BK726.out 4
                    have hfz42_5 := blk_frozen BK726.out 5
                    obtain ⟨Ao43, co43, eo43⟩ := Kd.R_slice HO_5.out
                    subst eo43
                    go_wp2_with (first | (go_at_call 66; (with_reducible refine (changeoverref23_Same.calls kj18 _ _ t717 _ _ l0 true _ ?side1 ?side2 ?side3 ?side4 A39.out).mono ?_); (case side1 => repeat (first | exact (Kd.R_reads' HO_5.out).2.2 | (with_reducible refine Kd.C_alloc ?_ _) | (with_reducible refine Kd.C_drewN ?_ _) | (with_reducible refine Kd.C_drew ?_))); (case side2 => exact (Kd.R_reads' HO_5.out).2.1); (case side3 => repeat (first | exact (Kd.C_below HR0.out HB.out) | (with_reducible refine Kd.C_alloc ?_ _) | (with_reducible refine Kd.C_drewN ?_ _) | (with_reducible refine Kd.C_drew ?_))); (case side4 => exact HC0.out); rintro e w' ⟨rfl, ⟨nd, rfl⟩⟩; (try first | exact ⟨rfl, _, World.drewN_drewN _ _ _⟩ | exact ⟨rfl, _, Eq.trans (World.drewN_drewN _ _ _) (congrArg (World.drewN _) (Nat.add_assoc _ _ _))⟩)))
                    repeat (go_quiet (first | (go_at_call 66; (with_reducible refine (changeoverref23_Same.calls kj18 _ _ t717 _ _ l0 true _ ?side1 ?side2 ?side3 ?side4 A39.out).mono ?_); (case side1 => repeat (first | exact (Kd.R_reads' HO_5.out).2.2 | (with_reducible refine Kd.C_alloc ?_ _) | (with_reducible refine Kd.C_drewN ?_ _) | (with_reducible refine Kd.C_drew ?_))); (case side2 => exact (Kd.R_reads' HO_5.out).2.1); (case side3 => repeat (first | exact (Kd.C_below HR0.out HB.out) | (with_reducible refine Kd.C_alloc ?_ _) | (with_reducible refine Kd.C_drewN ?_ _) | (with_reducible refine Kd.C_drew ?_))); (case side4 => exact HC0.out); rintro e w' ⟨rfl, ⟨nd, rfl⟩⟩; (try first | exact ⟨rfl, _, World.drewN_drewN _ _ _⟩ | exact ⟨rfl, _, Eq.trans (World.drewN_drewN _ _ _) (congrArg (World.drewN _) (Nat.add_assoc _ _ _))⟩))); try go_wp2_with (first | (go_at_call 66; (with_reducible refine (changeoverref23_Same.calls kj18 _ _ t717 _ _ l0 true _ ?side1 ?side2 ?side3 ?side4 A39.out).mono ?_); (case side1 => repeat (first | exact (Kd.R_reads' HO_5.out).2.2 | (with_reducible refine Kd.C_alloc ?_ _) | (with_reducible refine Kd.C_drewN ?_ _) | (with_reducible refine Kd.C_drew ?_))); (case side2 => exact (Kd.R_reads' HO_5.out).2.1); (case side3 => repeat (first | exact (Kd.C_below HR0.out HB.out) | (with_reducible refine Kd.C_alloc ?_ _) | (with_reducible refine Kd.C_drewN ?_ _) | (with_reducible refine Kd.C_drew ?_))); (case side4 => exact HC0.out); rintro e w' ⟨rfl, ⟨nd, rfl⟩⟩; (try first | exact ⟨rfl, _, World.drewN_drewN _ _ _⟩ | exact ⟨rfl, _, Eq.trans (World.drewN_drewN _ _ _) (congrArg (World.drewN _) (Nat.add_assoc _ _ _))⟩))))
                    go_meet
                    case rel => exact ⟨_, (((t717.length : Int) != (l0.length : Int))), (by first | rfl | (simp; done) | (simp [*]; done)), H', ⟨by have := HJ2.out; have := HJ18.out; first | omega | exact Nat.le_refl _⟩, ⟨by (with_reducible repeat (first | apply Kd.R_alloc | apply Kd.R_drewN | apply Kd.R_drew)); exact HO_5.out⟩, ⟨by (with_reducible repeat (first | refine blk_drewN ?_ _ | refine blk_drew ?_ | refine blk_alloc ?_ _)); exact BK712.out⟩, ⟨by (with_reducible repeat (first | refine blk_drewN ?_ _ | refine blk_drew ?_ | refine blk_alloc ?_ _)); exact BK726.out⟩, ⟨by repeat (first | (with_reducible first | exact HB.out | apply below_alloc | apply pw_below_drewN | apply below_drew1 | refine below_set ?_ GE712.out | refine below_set ?_ GE726.out) | exact HB.out)⟩⟩
                  · replace c40 := Bool.eq_false_iff.mpr c40
                    subst c40
                    have H1 : (changeoverlaw24_KvtwoCas.j2 kj18 l0 t717 t727 false true 5 a1_1 a1_2 a1_3 a1_4 a1_5 a1_6) = some r := by rw [if_neg (show ¬ (false = true) by decide)] at H; exact H
                    clear H
                    have H := H1
                    clear H1
                    have H' := Aside0.mk H
                    clear H
                    have hnb44 := NB726_712.out
                    have hnc44 := NB712_726.out
                    have hcz45_0 : wc.cell? ⟨gb726, 0, none⟩ = some (.int .i64 t720) := (blk_cell BK726.out 0).trans rfl
                    have hcz45_1 : wc.cell? ⟨gb726, 1, none⟩ = some (.int .i64 t721) := (blk_cell BK726.out 1).trans rfl
                    have hcz45_2 : wc.cell? ⟨gb726, 2, none⟩ = some (.int .i64 t722) := (blk_cell BK726.out 2).trans rfl
                    have hcz45_3 : wc.cell? ⟨gb726, 3, none⟩ = some (.bool t723) := (blk_cell BK726.out 3).trans rfl
                    have hcz45_4 : wc.cell? ⟨gb726, 4, none⟩ = some (.string t724) := (blk_cell BK726.out 4).trans rfl
                    have hcz45_5 : wc.cell? ⟨gb726, 5, none⟩ = some (.int .i64 t725) := (blk_cell BK726.out 5).trans rfl
                    have hfz45_0 := blk_frozen BK726.out 0
                    have hfz45_1 := blk_frozen BK726.out 1
                    have hfz45_2 := blk_frozen BK726.out 2
                    have hfz45_3 := blk_frozen BK726.out 3
                    have hfz45_4 := blk_frozen BK726.out 4
                    have hfz45_5 := blk_frozen BK726.out 5
                    obtain ⟨Ao46, co46, eo46⟩ := Kd.R_slice HO_5.out
                    subst eo46
                    go_wp2_with (first | (go_at_call 66; (with_reducible refine (changeoverref23_Same.calls kj18 _ _ t717 _ _ l0 false _ ?side1 ?side2 ?side3 ?side4 A39.out).mono ?_); (case side1 => repeat (first | exact (Kd.R_reads' HO_5.out).2.2 | (with_reducible refine Kd.C_alloc ?_ _) | (with_reducible refine Kd.C_drewN ?_ _) | (with_reducible refine Kd.C_drew ?_))); (case side2 => exact (Kd.R_reads' HO_5.out).2.1); (case side3 => repeat (first | exact (Kd.C_below HR0.out HB.out) | (with_reducible refine Kd.C_alloc ?_ _) | (with_reducible refine Kd.C_drewN ?_ _) | (with_reducible refine Kd.C_drew ?_))); (case side4 => exact HC0.out); rintro e w' ⟨rfl, ⟨nd, rfl⟩⟩; (try first | exact ⟨rfl, _, World.drewN_drewN _ _ _⟩ | exact ⟨rfl, _, Eq.trans (World.drewN_drewN _ _ _) (congrArg (World.drewN _) (Nat.add_assoc _ _ _))⟩)))
                    repeat (go_quiet (first | (go_at_call 66; (with_reducible refine (changeoverref23_Same.calls kj18 _ _ t717 _ _ l0 false _ ?side1 ?side2 ?side3 ?side4 A39.out).mono ?_); (case side1 => repeat (first | exact (Kd.R_reads' HO_5.out).2.2 | (with_reducible refine Kd.C_alloc ?_ _) | (with_reducible refine Kd.C_drewN ?_ _) | (with_reducible refine Kd.C_drew ?_))); (case side2 => exact (Kd.R_reads' HO_5.out).2.1); (case side3 => repeat (first | exact (Kd.C_below HR0.out HB.out) | (with_reducible refine Kd.C_alloc ?_ _) | (with_reducible refine Kd.C_drewN ?_ _) | (with_reducible refine Kd.C_drew ?_))); (case side4 => exact HC0.out); rintro e w' ⟨rfl, ⟨nd, rfl⟩⟩; (try first | exact ⟨rfl, _, World.drewN_drewN _ _ _⟩ | exact ⟨rfl, _, Eq.trans (World.drewN_drewN _ _ _) (congrArg (World.drewN _) (Nat.add_assoc _ _ _))⟩))); try go_wp2_with (first | (go_at_call 66; (with_reducible refine (changeoverref23_Same.calls kj18 _ _ t717 _ _ l0 false _ ?side1 ?side2 ?side3 ?side4 A39.out).mono ?_); (case side1 => repeat (first | exact (Kd.R_reads' HO_5.out).2.2 | (with_reducible refine Kd.C_alloc ?_ _) | (with_reducible refine Kd.C_drewN ?_ _) | (with_reducible refine Kd.C_drew ?_))); (case side2 => exact (Kd.R_reads' HO_5.out).2.1); (case side3 => repeat (first | exact (Kd.C_below HR0.out HB.out) | (with_reducible refine Kd.C_alloc ?_ _) | (with_reducible refine Kd.C_drewN ?_ _) | (with_reducible refine Kd.C_drew ?_))); (case side4 => exact HC0.out); rintro e w' ⟨rfl, ⟨nd, rfl⟩⟩; (try first | exact ⟨rfl, _, World.drewN_drewN _ _ _⟩ | exact ⟨rfl, _, Eq.trans (World.drewN_drewN _ _ _) (congrArg (World.drewN _) (Nat.add_assoc _ _ _))⟩))))
                    go_meet
                    case rel => exact ⟨_, (true), (by first | rfl | (simp; done) | (simp [*]; done)), H', ⟨by have := HJ2.out; have := HJ18.out; first | omega | exact Nat.le_refl _⟩, ⟨by (with_reducible repeat (first | apply Kd.R_alloc | apply Kd.R_drewN | apply Kd.R_drew)); exact HO_5.out⟩, ⟨by (with_reducible repeat (first | refine blk_drewN ?_ _ | refine blk_drew ?_ | refine blk_alloc ?_ _)); exact BK712.out⟩, ⟨by (with_reducible repeat (first | refine blk_drewN ?_ _ | refine blk_drew ?_ | refine blk_alloc ?_ _)); exact BK726.out⟩, ⟨by repeat (first | (with_reducible first | exact HB.out | apply below_alloc | apply pw_below_drewN | apply below_drew1 | refine below_set ?_ GE712.out | refine below_set ?_ GE726.out) | exact HB.out)⟩⟩
            case rest =>
              clear HC31
              try clear c1
              try clear c2
              try clear p2
              try clear c3
              try clear c4
              try clear c6
              try clear p7
              try clear q7
              try clear hx7
              try clear c8
              try clear c11
              try clear c14
              try clear c23
              try clear c26
              try clear c26b0
              try clear c27
              try clear c27b0
              try clear c28
              try clear c28b0
              try clear c29
              try clear c32
              try clear c32b0
              try clear c32b1
              try clear c32b2
              try clear c33
              try clear c35
              try clear c36
              try clear c40
              try clear c41
              try clear c44
              try clear hcz12_0
              try clear hcz12_1
              try clear hcz12_2
              try clear hcz12_3
              try clear hcz12_4
              try clear hcz12_5
              try clear hcz12_6
              try clear hcz20_0
              try clear hcz20_1
              try clear hcz20_2
              try clear hcz20_3
              try clear hcz20_4
              try clear hcz20_5
              try clear hcz20_6
              try clear hcz24_0
              try clear hcz24_1
              try clear hcz24_2
              try clear hcz24_3
              try clear hcz24_4
              try clear hcz24_5
              try clear hcz25_0
              try clear hcz25_1
              try clear hcz25_2
              try clear hcz25_3
              try clear hcz25_4
              try clear hcz25_5
              try clear hcz25_6
              try clear hcz30_0
              try clear hcz30_1
              try clear hcz30_2
              try clear hcz30_3
              try clear hcz30_4
              try clear hcz30_5
              try clear hcz30_6
              try clear hcz34_0
              try clear hcz34_1
              try clear hcz34_2
              try clear hcz34_3
              try clear hcz34_4
              try clear hcz34_5
              try clear hcz37_0
              try clear hcz37_1
              try clear hcz37_2
              try clear hcz37_3
              try clear hcz37_4
              try clear hcz37_5
              try clear hcz42_0
              try clear hcz42_1
              try clear hcz42_2
              try clear hcz42_3
              try clear hcz42_4
              try clear hcz42_5
              try clear hcz45_0
              try clear hcz45_1
              try clear hcz45_2
              try clear hcz45_3
              try clear hcz45_4
              try clear hcz45_5
              try clear hcz9_0
              try clear hcz9_1
              try clear hcz9_2
              try clear hcz9_3
              try clear hcz9_4
              try clear hcz9_5
              try clear hcz9_6
              try clear hfz12_0
              try clear hfz12_1
              try clear hfz12_2
              try clear hfz12_3
              try clear hfz12_4
              try clear hfz12_5
              try clear hfz12_6
              try clear hfz20_0
              try clear hfz20_1
              try clear hfz20_2
              try clear hfz20_3
              try clear hfz20_4
              try clear hfz20_5
              try clear hfz20_6
              try clear hfz24_0
              try clear hfz24_1
              try clear hfz24_2
              try clear hfz24_3
              try clear hfz24_4
              try clear hfz24_5
              try clear hfz25_0
              try clear hfz25_1
              try clear hfz25_2
              try clear hfz25_3
              try clear hfz25_4
              try clear hfz25_5
              try clear hfz25_6
              try clear hfz30_0
              try clear hfz30_1
              try clear hfz30_2
              try clear hfz30_3
              try clear hfz30_4
              try clear hfz30_5
              try clear hfz30_6
              try clear hfz34_0
              try clear hfz34_1
              try clear hfz34_2
              try clear hfz34_3
              try clear hfz34_4
              try clear hfz34_5
              try clear hfz37_0
              try clear hfz37_1
              try clear hfz37_2
              try clear hfz37_3
              try clear hfz37_4
              try clear hfz37_5
              try clear hfz42_0
              try clear hfz42_1
              try clear hfz42_2
              try clear hfz42_3
              try clear hfz42_4
              try clear hfz42_5
              try clear hfz45_0
              try clear hfz45_1
              try clear hfz45_2
              try clear hfz45_3
              try clear hfz45_4
              try clear hfz45_5
              try clear hfz9_0
              try clear hfz9_1
              try clear hfz9_2
              try clear hfz9_3
              try clear hfz9_4
              try clear hfz9_5
              try clear hfz9_6
              try clear hx728_0
              try clear hx728_1
              try clear hx728_2
              try clear p2
              try clear p7
              try clear p728
              try clear q7
              try clear q728
              obtain ⟨kq, x66_30, rfl, HA, HJ30, HO_5, BK712, BK726, HB⟩ := hcut
              cases kq with
              | zero => exact absurd HA.out (by simp [changeoverlaw24_KvtwoCas.j2])
              | succ kj30 =>
                have H := HA.out
                clear HA
                simp only [changeoverlaw24_KvtwoCas.j2] at H
                by_cases c47 : x66_30 = true
                · subst c47
                  have H1 : (some false) = some r := by rw [if_pos rfl] at H; exact H
                  clear H
                  have H := H1
                  clear H1
                  obtain rfl := Option.some.inj H
                  go_wp2
                  repeat (go_quiet (fail); try go_wp2)
                  go_ret
                  exact ⟨by first | rfl | (simp [errW_none, errW_some] <;> rfl) | (simp [*, errW_none, errW_some] <;> rfl), by repeat (first | (with_reducible first | exact HB.out | apply below_alloc | apply pw_below_drewN | apply below_drew1 | refine below_set ?_ GE712.out | refine below_set ?_ GE726.out) | exact HB.out)⟩
                · replace c47 := Bool.eq_false_iff.mpr c47
                  subst c47
                  have H1 : (changeoverlaw24_KvtwoCas.l0 kj30 l0 t717 t727 x8_18 0 5 a1_1 a1_2 a1_3 a1_4 a1_5 a1_6) = some r := by rw [if_neg (show ¬ (false = true) by decide)] at H; exact H
                  clear H
                  have H := H1
                  clear H1
                  have H' := Aside0.mk H
                  clear H
                  go_wp2
                  repeat (go_quiet (fail); try go_wp2)
                  go_loopg [9] kj30 (fun kq v9 w' => ∃ (x9_4 : Int), v9 = .int .i64 x9_4 ∧ Aside0 (changeoverlaw24_KvtwoCas.l0 kq l0 t717 t727 x8_18 x9_4 5 a1_1 a1_2 a1_3 a1_4 a1_5 a1_6 = some r) ∧ Aside0 (kq ≤ kj30) ∧ Aside0 (Kd.R k78 78 w' w.heap.size (fun _ => True) v718 t717) ∧ Aside0 (w'.heap[gb712]? = some (.cells #[.int .i64 5, .int .i64 a1_1, .int .i64 a1_2, .string a1_3, .string a1_4, .string a1_5, .int .i64 a1_6] 72 (0, 0))) ∧ Aside0 (w'.heap[gb726]? = some (.cells #[.int .i64 t720, .int .i64 t721, .int .i64 t722, .bool t723, .string t724, .int .i64 t725] 60 (0, 0))) ∧ Aside0 (Below w.heap.size w w'))
                  case atStart => exact ⟨(0), (by first | rfl | (simp; done) | (simp [*]; done)), H', ⟨Nat.le_refl _⟩, ⟨by (with_reducible repeat (first | apply Kd.R_alloc | apply Kd.R_drewN | apply Kd.R_drew)); exact HO_5.out⟩, ⟨by (with_reducible repeat (first | refine blk_drewN ?_ _ | refine blk_drew ?_ | refine blk_alloc ?_ _)); exact BK712.out⟩, ⟨by (with_reducible repeat (first | refine blk_drewN ?_ _ | refine blk_drew ?_ | refine blk_alloc ?_ _)); exact BK726.out⟩, ⟨by repeat (first | (with_reducible first | exact HB.out | apply below_alloc | apply pw_below_drewN | apply below_drew1 | refine below_set ?_ GE712.out | refine below_set ?_ GE726.out) | exact HB.out)⟩⟩
                  case round =>
                    clear H'
                    try clear c1
                    try clear c2
                    try clear p2
                    try clear c3
                    try clear c4
                    try clear c6
                    try clear p7
                    try clear q7
                    try clear hx7
                    try clear c8
                    try clear c11
                    try clear c14
                    try clear c23
                    try clear c26
                    try clear c26b0
                    try clear c27
                    try clear c27b0
                    try clear c28
                    try clear c28b0
                    try clear c29
                    try clear c32
                    try clear c32b0
                    try clear c32b1
                    try clear c32b2
                    try clear c33
                    try clear c35
                    try clear c36
                    try clear c40
                    try clear c41
                    try clear c44
                    try clear c47
                    try clear hcz12_0
                    try clear hcz12_1
                    try clear hcz12_2
                    try clear hcz12_3
                    try clear hcz12_4
                    try clear hcz12_5
                    try clear hcz12_6
                    try clear hcz20_0
                    try clear hcz20_1
                    try clear hcz20_2
                    try clear hcz20_3
                    try clear hcz20_4
                    try clear hcz20_5
                    try clear hcz20_6
                    try clear hcz24_0
                    try clear hcz24_1
                    try clear hcz24_2
                    try clear hcz24_3
                    try clear hcz24_4
                    try clear hcz24_5
                    try clear hcz25_0
                    try clear hcz25_1
                    try clear hcz25_2
                    try clear hcz25_3
                    try clear hcz25_4
                    try clear hcz25_5
                    try clear hcz25_6
                    try clear hcz30_0
                    try clear hcz30_1
                    try clear hcz30_2
                    try clear hcz30_3
                    try clear hcz30_4
                    try clear hcz30_5
                    try clear hcz30_6
                    try clear hcz34_0
                    try clear hcz34_1
                    try clear hcz34_2
                    try clear hcz34_3
                    try clear hcz34_4
                    try clear hcz34_5
                    try clear hcz37_0
                    try clear hcz37_1
                    try clear hcz37_2
                    try clear hcz37_3
                    try clear hcz37_4
                    try clear hcz37_5
                    try clear hcz42_0
                    try clear hcz42_1
                    try clear hcz42_2
                    try clear hcz42_3
                    try clear hcz42_4
                    try clear hcz42_5
                    try clear hcz45_0
                    try clear hcz45_1
                    try clear hcz45_2
                    try clear hcz45_3
                    try clear hcz45_4
                    try clear hcz45_5
                    try clear hcz9_0
                    try clear hcz9_1
                    try clear hcz9_2
                    try clear hcz9_3
                    try clear hcz9_4
                    try clear hcz9_5
                    try clear hcz9_6
                    try clear hfz12_0
                    try clear hfz12_1
                    try clear hfz12_2
                    try clear hfz12_3
                    try clear hfz12_4
                    try clear hfz12_5
                    try clear hfz12_6
                    try clear hfz20_0
                    try clear hfz20_1
                    try clear hfz20_2
                    try clear hfz20_3
                    try clear hfz20_4
                    try clear hfz20_5
                    try clear hfz20_6
                    try clear hfz24_0
                    try clear hfz24_1
                    try clear hfz24_2
                    try clear hfz24_3
                    try clear hfz24_4
                    try clear hfz24_5
                    try clear hfz25_0
                    try clear hfz25_1
                    try clear hfz25_2
                    try clear hfz25_3
                    try clear hfz25_4
                    try clear hfz25_5
                    try clear hfz25_6
                    try clear hfz30_0
                    try clear hfz30_1
                    try clear hfz30_2
                    try clear hfz30_3
                    try clear hfz30_4
                    try clear hfz30_5
                    try clear hfz30_6
                    try clear hfz34_0
                    try clear hfz34_1
                    try clear hfz34_2
                    try clear hfz34_3
                    try clear hfz34_4
                    try clear hfz34_5
                    try clear hfz37_0
                    try clear hfz37_1
                    try clear hfz37_2
                    try clear hfz37_3
                    try clear hfz37_4
                    try clear hfz37_5
                    try clear hfz42_0
                    try clear hfz42_1
                    try clear hfz42_2
                    try clear hfz42_3
                    try clear hfz42_4
                    try clear hfz42_5
                    try clear hfz45_0
                    try clear hfz45_1
                    try clear hfz45_2
                    try clear hfz45_3
                    try clear hfz45_4
                    try clear hfz45_5
                    try clear hfz9_0
                    try clear hfz9_1
                    try clear hfz9_2
                    try clear hfz9_3
                    try clear hfz9_4
                    try clear hfz9_5
                    try clear hfz9_6
                    try clear hx728_0
                    try clear hx728_1
                    try clear hx728_2
                    try clear p2
                    try clear p7
                    try clear p728
                    try clear q7
                    try clear q728
                    obtain ⟨x9_4, rfl, HA, HK4, HO_5, BK712, BK726, HB⟩ := hrel
                    cases gk with
                    | zero => exact absurd HA.out (by simp [changeoverlaw24_KvtwoCas.l0])
                    | succ k4 =>
                      have H := HA.out
                      clear HA
                      simp only [changeoverlaw24_KvtwoCas.l0] at H
                      by_cases c48 : x9_4 < (l0.length : Int)
                      · rw [if_pos c48] at H
                        have c48b0 : decide (x9_4 < (l0.length : Int)) = true := decide_eq_true c48
                        clear c48
                        by_cases c49 : 0 ≤ x9_4
                        · rw [if_pos c49] at H
                          have c49b0 : decide (0 ≤ x9_4) = true := decide_eq_true c49
                          clear c49
                          by_cases c50 : x9_4 < (t717.length : Int)
                          · rw [if_pos c50] at H
                            have c50b0 : decide (x9_4 < (t717.length : Int)) = true := decide_eq_true c50
                            clear c50
                            by_cases c51 : ((rd_T78 t717 x9_4).f0).toList = ((rd_T78 l0 x9_4).f0).toList
                            · rw [if_pos c51] at H
                              have c51b0 : (((rd_T78 t717 x9_4).f0).toList == ((rd_T78 l0 x9_4).f0).toList) = true := beq_iff_eq.mpr c51
                              have c51b1 : (((rd_T78 t717 x9_4).f0).toList != ((rd_T78 l0 x9_4).f0).toList) = false := bne_eq_false_iff_eq.mpr c51
                              clear c51
                              by_cases c52 : ((rd_T78 t717 x9_4).f2) < ((rd_T78 l0 x9_4).f2)
                              · rw [if_pos c52] at H
                                have c52b0 : decide (((rd_T78 t717 x9_4).f2) < ((rd_T78 l0 x9_4).f2)) = true := decide_eq_true c52
                                clear c52
                                obtain rfl := Option.some.inj H
                                obtain ⟨Ao53, co53, eo53⟩ := Kd.R_slice HO_5.out
                                subst eo53
                                have p730 : 0 ≤ (x9_4 : Int) := of_decide_eq_true (by first | (with_reducible assumption) | assumption)
                                have q730 : x9_4 < (t717.length : Int) := of_decide_eq_true (by first | (with_reducible assumption) | assumption)
                                obtain ⟨ad730, e730, hx730_0, hx730_1, hx730_2⟩ := at_T78 (Kd.R_reads' HO_5.out).2.2 x9_4 p730 q730
                                cases e730
                                replace p730 := eq_true p730
                                replace q730 := eq_true q730
                                have p731 : 0 ≤ (x9_4 : Int) := of_decide_eq_true (by first | (with_reducible assumption) | assumption)
                                have q731 : x9_4 < (l0.length : Int) := of_decide_eq_true (by first | (with_reducible assumption) | assumption)
                                obtain ⟨ad731, e731, hx731_0, hx731_1, hx731_2⟩ := at_T78 HR0.out x9_4 p731 q731
                                cases e731
                                replace hx731_0 := (HB.out.cell (World.block_lt_of_cell? w _ hx731_0)).trans hx731_0
                                replace hx731_1 := (HB.out.cell (World.block_lt_of_cell? w _ hx731_1)).trans hx731_1
                                replace hx731_2 := (HB.out.cell (World.block_lt_of_cell? w _ hx731_2)).trans hx731_2
                                replace p731 := eq_true p731
                                replace q731 := eq_true q731
                                have p732 : 0 ≤ (x9_4 : Int) := of_decide_eq_true (by first | (with_reducible assumption) | assumption)
                                have q732 : x9_4 < (t717.length : Int) := of_decide_eq_true (by first | (with_reducible assumption) | assumption)
                                obtain ⟨ad732, e732, hx732_0, hx732_1, hx732_2⟩ := at_T78 (Kd.R_reads' HO_5.out).2.2 x9_4 p732 q732
                                obtain rfl : ad730 = ad732 := (by injection e732)
                                replace p732 := eq_true p732
                                replace q732 := eq_true q732
                                have p733 : 0 ≤ (x9_4 : Int) := of_decide_eq_true (by first | (with_reducible assumption) | assumption)
                                have q733 : x9_4 < (l0.length : Int) := of_decide_eq_true (by first | (with_reducible assumption) | assumption)
                                obtain ⟨ad733, e733, hx733_0, hx733_1, hx733_2⟩ := at_T78 HR0.out x9_4 p733 q733
                                obtain rfl : ad731 = ad733 := (by injection e733)
                                replace hx733_0 := (HB.out.cell (World.block_lt_of_cell? w _ hx733_0)).trans hx733_0
                                replace hx733_1 := (HB.out.cell (World.block_lt_of_cell? w _ hx733_1)).trans hx733_1
                                replace hx733_2 := (HB.out.cell (World.block_lt_of_cell? w _ hx733_2)).trans hx733_2
                                replace p733 := eq_true p733
                                replace q733 := eq_true q733
                                go_wp2
                                repeat (go_quiet (fail); try go_wp2)
                                go_ret
                                exact ⟨by first | rfl | (simp [errW_none, errW_some] <;> rfl) | (simp [*, errW_none, errW_some] <;> rfl), by repeat (first | (with_reducible first | exact HB.out | apply below_alloc | apply pw_below_drewN | apply below_drew1 | refine below_set ?_ GE712.out | refine below_set ?_ GE726.out) | exact HB.out)⟩
                              · rw [if_neg c52] at H
                                have c52b0 : decide (((rd_T78 t717 x9_4).f2) < ((rd_T78 l0 x9_4).f2)) = false := decide_eq_false c52
                                clear c52
                                by_cases c54 : x9_4 = t727
                                · rw [if_pos c54] at H
                                  have c54b0 : (x9_4 == t727) = true := beq_iff_eq.mpr c54
                                  have c54b1 : (x9_4 != t727) = false := bne_eq_false_iff_eq.mpr c54
                                  clear c54
                                  by_cases c55 : x8_18 = true
                                  · subst c55
                                    have H1 : (if ((rd_T78 t717 x9_4).f1).toList = a1_4.toList then (changeoverlaw24_KvtwoCas.l0 k4 l0 t717 t727 true (wrap64 (x9_4 + 1)) 5 a1_1 a1_2 a1_3 a1_4 a1_5 a1_6) else (some false)) = some r := by rw [if_pos rfl] at H; exact H
                                    clear H
                                    have H := H1
                                    clear H1
                                    by_cases c56 : ((rd_T78 t717 x9_4).f1).toList = a1_4.toList
                                    · rw [if_pos c56] at H
                                      have c56b0 : (((rd_T78 t717 x9_4).f1).toList == a1_4.toList) = true := beq_iff_eq.mpr c56
                                      have c56b1 : (((rd_T78 t717 x9_4).f1).toList != a1_4.toList) = false := bne_eq_false_iff_eq.mpr c56
                                      clear c56
                                      have H' := Aside0.mk H
                                      clear H
                                      obtain ⟨Ao57, co57, eo57⟩ := Kd.R_slice HO_5.out
                                      subst eo57
                                      have p730 : 0 ≤ (x9_4 : Int) := of_decide_eq_true (by first | (with_reducible assumption) | assumption)
                                      have q730 : x9_4 < (t717.length : Int) := of_decide_eq_true (by first | (with_reducible assumption) | assumption)
                                      obtain ⟨ad730, e730, hx730_0, hx730_1, hx730_2⟩ := at_T78 (Kd.R_reads' HO_5.out).2.2 x9_4 p730 q730
                                      cases e730
                                      replace p730 := eq_true p730
                                      replace q730 := eq_true q730
                                      have p731 : 0 ≤ (x9_4 : Int) := of_decide_eq_true (by first | (with_reducible assumption) | assumption)
                                      have q731 : x9_4 < (l0.length : Int) := of_decide_eq_true (by first | (with_reducible assumption) | assumption)
                                      obtain ⟨ad731, e731, hx731_0, hx731_1, hx731_2⟩ := at_T78 HR0.out x9_4 p731 q731
                                      cases e731
                                      replace hx731_0 := (HB.out.cell (World.block_lt_of_cell? w _ hx731_0)).trans hx731_0
                                      replace hx731_1 := (HB.out.cell (World.block_lt_of_cell? w _ hx731_1)).trans hx731_1
                                      replace hx731_2 := (HB.out.cell (World.block_lt_of_cell? w _ hx731_2)).trans hx731_2
                                      replace p731 := eq_true p731
                                      replace q731 := eq_true q731
                                      have p732 : 0 ≤ (x9_4 : Int) := of_decide_eq_true (by first | (with_reducible assumption) | assumption)
                                      have q732 : x9_4 < (t717.length : Int) := of_decide_eq_true (by first | (with_reducible assumption) | assumption)
                                      obtain ⟨ad732, e732, hx732_0, hx732_1, hx732_2⟩ := at_T78 (Kd.R_reads' HO_5.out).2.2 x9_4 p732 q732
                                      obtain rfl : ad730 = ad732 := (by injection e732)
                                      replace p732 := eq_true p732
                                      replace q732 := eq_true q732
                                      have p733 : 0 ≤ (x9_4 : Int) := of_decide_eq_true (by first | (with_reducible assumption) | assumption)
                                      have q733 : x9_4 < (l0.length : Int) := of_decide_eq_true (by first | (with_reducible assumption) | assumption)
                                      obtain ⟨ad733, e733, hx733_0, hx733_1, hx733_2⟩ := at_T78 HR0.out x9_4 p733 q733
                                      obtain rfl : ad731 = ad733 := (by injection e733)
                                      replace hx733_0 := (HB.out.cell (World.block_lt_of_cell? w _ hx733_0)).trans hx733_0
                                      replace hx733_1 := (HB.out.cell (World.block_lt_of_cell? w _ hx733_1)).trans hx733_1
                                      replace hx733_2 := (HB.out.cell (World.block_lt_of_cell? w _ hx733_2)).trans hx733_2
                                      replace p733 := eq_true p733
                                      replace q733 := eq_true q733
                                      have p734 : 0 ≤ (x9_4 : Int) := of_decide_eq_true (by first | (with_reducible assumption) | assumption)
                                      have q734 : x9_4 < (t717.length : Int) := of_decide_eq_true (by first | (with_reducible assumption) | assumption)
                                      obtain ⟨ad734, e734, hx734_0, hx734_1, hx734_2⟩ := at_T78 (Kd.R_reads' HO_5.out).2.2 x9_4 p734 q734
                                      obtain rfl : ad730 = ad734 := (by injection e734)
                                      replace p734 := eq_true p734
                                      replace q734 := eq_true q734
                                      have hnb58 := NB712_726.out
                                      have hnc58 := NB726_712.out
                                      have hcz59_0 : wr.cell? ⟨gb712, 0, none⟩ = some (.int .i64 5) := (blk_cell BK712.out 0).trans rfl
                                      have hcz59_1 : wr.cell? ⟨gb712, 1, none⟩ = some (.int .i64 a1_1) := (blk_cell BK712.out 1).trans rfl
                                      have hcz59_2 : wr.cell? ⟨gb712, 2, none⟩ = some (.int .i64 a1_2) := (blk_cell BK712.out 2).trans rfl
                                      have hcz59_3 : wr.cell? ⟨gb712, 3, none⟩ = some (.string a1_3) := (blk_cell BK712.out 3).trans rfl
                                      have hcz59_4 : wr.cell? ⟨gb712, 4, none⟩ = some (.string a1_4) := (blk_cell BK712.out 4).trans rfl
                                      have hcz59_5 : wr.cell? ⟨gb712, 5, none⟩ = some (.string a1_5) := (blk_cell BK712.out 5).trans rfl
                                      have hcz59_6 : wr.cell? ⟨gb712, 6, none⟩ = some (.int .i64 a1_6) := (blk_cell BK712.out 6).trans rfl
                                      have hfz59_0 := blk_frozen BK712.out 0
                                      have hfz59_1 := blk_frozen BK712.out 1
                                      have hfz59_2 := blk_frozen BK712.out 2
                                      have hfz59_3 := blk_frozen BK712.out 3
                                      have hfz59_4 := blk_frozen BK712.out 4
                                      have hfz59_5 := blk_frozen BK712.out 5
                                      have hfz59_6 := blk_frozen BK712.out 6
                                      go_wp2
                                      repeat (go_quiet (fail); try go_wp2)
                                      go_roundg k4
                                      case measure => have := HJ2.out; have := HJ18.out; have := HJ30.out; have := HK4.out; omega
                                      case rel => exact ⟨(wrap64 (x9_4 + 1)), (by first | rfl | (simp; done) | (simp [*]; done)), H', ⟨by have := HJ2.out; have := HJ18.out; have := HJ30.out; have := HK4.out; omega⟩, ⟨by (with_reducible repeat (first | apply Kd.R_alloc | apply Kd.R_drewN | apply Kd.R_drew)); exact HO_5.out⟩, ⟨by (with_reducible repeat (first | refine blk_drewN ?_ _ | refine blk_drew ?_ | refine blk_alloc ?_ _)); exact BK712.out⟩, ⟨by (with_reducible repeat (first | refine blk_drewN ?_ _ | refine blk_drew ?_ | refine blk_alloc ?_ _)); exact BK726.out⟩, ⟨by repeat (first | (with_reducible first | exact HB.out | apply below_alloc | apply pw_below_drewN | apply below_drew1 | refine below_set ?_ GE712.out | refine below_set ?_ GE726.out) | exact HB.out)⟩⟩
                                    · rw [if_neg c56] at H
                                      have c56b0 : (((rd_T78 t717 x9_4).f1).toList == a1_4.toList) = false := beq_eq_false_iff_ne.mpr c56
                                      have c56b1 : (((rd_T78 t717 x9_4).f1).toList != a1_4.toList) = true := bne_iff_ne.mpr c56
                                      obtain rfl := Option.some.inj H
                                      obtain ⟨Ao60, co60, eo60⟩ := Kd.R_slice HO_5.out
                                      subst eo60
                                      have p730 : 0 ≤ (x9_4 : Int) := of_decide_eq_true (by first | (with_reducible assumption) | assumption)
                                      have q730 : x9_4 < (t717.length : Int) := of_decide_eq_true (by first | (with_reducible assumption) | assumption)
                                      obtain ⟨ad730, e730, hx730_0, hx730_1, hx730_2⟩ := at_T78 (Kd.R_reads' HO_5.out).2.2 x9_4 p730 q730
                                      cases e730
                                      replace p730 := eq_true p730
                                      replace q730 := eq_true q730
                                      have p731 : 0 ≤ (x9_4 : Int) := of_decide_eq_true (by first | (with_reducible assumption) | assumption)
                                      have q731 : x9_4 < (l0.length : Int) := of_decide_eq_true (by first | (with_reducible assumption) | assumption)
                                      obtain ⟨ad731, e731, hx731_0, hx731_1, hx731_2⟩ := at_T78 HR0.out x9_4 p731 q731
                                      cases e731
                                      replace hx731_0 := (HB.out.cell (World.block_lt_of_cell? w _ hx731_0)).trans hx731_0
                                      replace hx731_1 := (HB.out.cell (World.block_lt_of_cell? w _ hx731_1)).trans hx731_1
                                      replace hx731_2 := (HB.out.cell (World.block_lt_of_cell? w _ hx731_2)).trans hx731_2
                                      replace p731 := eq_true p731
                                      replace q731 := eq_true q731
                                      have p732 : 0 ≤ (x9_4 : Int) := of_decide_eq_true (by first | (with_reducible assumption) | assumption)
                                      have q732 : x9_4 < (t717.length : Int) := of_decide_eq_true (by first | (with_reducible assumption) | assumption)
                                      obtain ⟨ad732, e732, hx732_0, hx732_1, hx732_2⟩ := at_T78 (Kd.R_reads' HO_5.out).2.2 x9_4 p732 q732
                                      obtain rfl : ad730 = ad732 := (by injection e732)
                                      replace p732 := eq_true p732
                                      replace q732 := eq_true q732
                                      have p733 : 0 ≤ (x9_4 : Int) := of_decide_eq_true (by first | (with_reducible assumption) | assumption)
                                      have q733 : x9_4 < (l0.length : Int) := of_decide_eq_true (by first | (with_reducible assumption) | assumption)
                                      obtain ⟨ad733, e733, hx733_0, hx733_1, hx733_2⟩ := at_T78 HR0.out x9_4 p733 q733
                                      obtain rfl : ad731 = ad733 := (by injection e733)
                                      replace hx733_0 := (HB.out.cell (World.block_lt_of_cell? w _ hx733_0)).trans hx733_0
                                      replace hx733_1 := (HB.out.cell (World.block_lt_of_cell? w _ hx733_1)).trans hx733_1
                                      replace hx733_2 := (HB.out.cell (World.block_lt_of_cell? w _ hx733_2)).trans hx733_2
                                      replace p733 := eq_true p733
                                      replace q733 := eq_true q733
                                      have p734 : 0 ≤ (x9_4 : Int) := of_decide_eq_true (by first | (with_reducible assumption) | assumption)
                                      have q734 : x9_4 < (t717.length : Int) := of_decide_eq_true (by first | (with_reducible assumption) | assumption)
                                      obtain ⟨ad734, e734, hx734_0, hx734_1, hx734_2⟩ := at_T78 (Kd.R_reads' HO_5.out).2.2 x9_4 p734 q734
                                      obtain rfl : ad730 = ad734 := (by injection e734)
                                      replace p734 := eq_true p734
                                      replace q734 := eq_true q734
                                      have hnb61 := NB712_726.out
                                      have hnc61 := NB726_712.out
                                      have hcz62_0 : wr.cell? ⟨gb712, 0, none⟩ = some (.int .i64 5) := (blk_cell BK712.out 0).trans rfl
                                      have hcz62_1 : wr.cell? ⟨gb712, 1, none⟩ = some (.int .i64 a1_1) := (blk_cell BK712.out 1).trans rfl
                                      have hcz62_2 : wr.cell? ⟨gb712, 2, none⟩ = some (.int .i64 a1_2) := (blk_cell BK712.out 2).trans rfl
                                      have hcz62_3 : wr.cell? ⟨gb712, 3, none⟩ = some (.string a1_3) := (blk_cell BK712.out 3).trans rfl
                                      have hcz62_4 : wr.cell? ⟨gb712, 4, none⟩ = some (.string a1_4) := (blk_cell BK712.out 4).trans rfl
                                      have hcz62_5 : wr.cell? ⟨gb712, 5, none⟩ = some (.string a1_5) := (blk_cell BK712.out 5).trans rfl
                                      have hcz62_6 : wr.cell? ⟨gb712, 6, none⟩ = some (.int .i64 a1_6) := (blk_cell BK712.out 6).trans rfl
                                      have hfz62_0 := blk_frozen BK712.out 0
                                      have hfz62_1 := blk_frozen BK712.out 1
                                      have hfz62_2 := blk_frozen BK712.out 2
                                      have hfz62_3 := blk_frozen BK712.out 3
                                      have hfz62_4 := blk_frozen BK712.out 4
                                      have hfz62_5 := blk_frozen BK712.out 5
                                      have hfz62_6 := blk_frozen BK712.out 6
                                      go_wp2
                                      repeat (go_quiet (fail); try go_wp2)
                                      go_ret
                                      exact ⟨by first | rfl | (simp [errW_none, errW_some] <;> rfl) | (simp [*, errW_none, errW_some] <;> rfl), by repeat (first | (with_reducible first | exact HB.out | apply below_alloc | apply pw_below_drewN | apply below_drew1 | refine below_set ?_ GE712.out | refine below_set ?_ GE726.out) | exact HB.out)⟩
                                  · replace c55 := Bool.eq_false_iff.mpr c55
                                    subst c55
                                    have H1 : (changeoverlaw24_KvtwoCas.l0 k4 l0 t717 t727 false (wrap64 (x9_4 + 1)) 5 a1_1 a1_2 a1_3 a1_4 a1_5 a1_6) = some r := by rw [if_neg (show ¬ (false = true) by decide)] at H; exact H
                                    clear H
                                    have H := H1
                                    clear H1
                                    have H' := Aside0.mk H
                                    clear H
                                    obtain ⟨Ao63, co63, eo63⟩ := Kd.R_slice HO_5.out
                                    subst eo63
                                    have p730 : 0 ≤ (x9_4 : Int) := of_decide_eq_true (by first | (with_reducible assumption) | assumption)
                                    have q730 : x9_4 < (t717.length : Int) := of_decide_eq_true (by first | (with_reducible assumption) | assumption)
                                    obtain ⟨ad730, e730, hx730_0, hx730_1, hx730_2⟩ := at_T78 (Kd.R_reads' HO_5.out).2.2 x9_4 p730 q730
                                    cases e730
                                    replace p730 := eq_true p730
                                    replace q730 := eq_true q730
                                    have p731 : 0 ≤ (x9_4 : Int) := of_decide_eq_true (by first | (with_reducible assumption) | assumption)
                                    have q731 : x9_4 < (l0.length : Int) := of_decide_eq_true (by first | (with_reducible assumption) | assumption)
                                    obtain ⟨ad731, e731, hx731_0, hx731_1, hx731_2⟩ := at_T78 HR0.out x9_4 p731 q731
                                    cases e731
                                    replace hx731_0 := (HB.out.cell (World.block_lt_of_cell? w _ hx731_0)).trans hx731_0
                                    replace hx731_1 := (HB.out.cell (World.block_lt_of_cell? w _ hx731_1)).trans hx731_1
                                    replace hx731_2 := (HB.out.cell (World.block_lt_of_cell? w _ hx731_2)).trans hx731_2
                                    replace p731 := eq_true p731
                                    replace q731 := eq_true q731
                                    have p732 : 0 ≤ (x9_4 : Int) := of_decide_eq_true (by first | (with_reducible assumption) | assumption)
                                    have q732 : x9_4 < (t717.length : Int) := of_decide_eq_true (by first | (with_reducible assumption) | assumption)
                                    obtain ⟨ad732, e732, hx732_0, hx732_1, hx732_2⟩ := at_T78 (Kd.R_reads' HO_5.out).2.2 x9_4 p732 q732
                                    obtain rfl : ad730 = ad732 := (by injection e732)
                                    replace p732 := eq_true p732
                                    replace q732 := eq_true q732
                                    have p733 : 0 ≤ (x9_4 : Int) := of_decide_eq_true (by first | (with_reducible assumption) | assumption)
                                    have q733 : x9_4 < (l0.length : Int) := of_decide_eq_true (by first | (with_reducible assumption) | assumption)
                                    obtain ⟨ad733, e733, hx733_0, hx733_1, hx733_2⟩ := at_T78 HR0.out x9_4 p733 q733
                                    obtain rfl : ad731 = ad733 := (by injection e733)
                                    replace hx733_0 := (HB.out.cell (World.block_lt_of_cell? w _ hx733_0)).trans hx733_0
                                    replace hx733_1 := (HB.out.cell (World.block_lt_of_cell? w _ hx733_1)).trans hx733_1
                                    replace hx733_2 := (HB.out.cell (World.block_lt_of_cell? w _ hx733_2)).trans hx733_2
                                    replace p733 := eq_true p733
                                    replace q733 := eq_true q733
                                    go_wp2
                                    repeat (go_quiet (fail); try go_wp2)
                                    go_roundg k4
                                    case measure => have := HJ2.out; have := HJ18.out; have := HJ30.out; have := HK4.out; omega
                                    case rel => exact ⟨(wrap64 (x9_4 + 1)), (by first | rfl | (simp; done) | (simp [*]; done)), H', ⟨by have := HJ2.out; have := HJ18.out; have := HJ30.out; have := HK4.out; omega⟩, ⟨by (with_reducible repeat (first | apply Kd.R_alloc | apply Kd.R_drewN | apply Kd.R_drew)); exact HO_5.out⟩, ⟨by (with_reducible repeat (first | refine blk_drewN ?_ _ | refine blk_drew ?_ | refine blk_alloc ?_ _)); exact BK712.out⟩, ⟨by (with_reducible repeat (first | refine blk_drewN ?_ _ | refine blk_drew ?_ | refine blk_alloc ?_ _)); exact BK726.out⟩, ⟨by repeat (first | (with_reducible first | exact HB.out | apply below_alloc | apply pw_below_drewN | apply below_drew1 | refine below_set ?_ GE712.out | refine below_set ?_ GE726.out) | exact HB.out)⟩⟩
                                · rw [if_neg c54] at H
                                  have c54b0 : (x9_4 == t727) = false := beq_eq_false_iff_ne.mpr c54
                                  have c54b1 : (x9_4 != t727) = true := bne_iff_ne.mpr c54
                                  by_cases c64 : (!((((rd_T78 t717 x9_4).f0).toList) == (((rd_T78 l0 x9_4).f0).toList)) || (!((((rd_T78 t717 x9_4).f1).toList) == (((rd_T78 l0 x9_4).f1).toList)) || (!(((rd_T78 t717 x9_4).f2) == ((rd_T78 l0 x9_4).f2))))) = true
                                  · rw [if_pos c64] at H
                                    have c64b0 : (!((((rd_T78 t717 x9_4).f0).toList) == (((rd_T78 l0 x9_4).f0).toList)) || (!((((rd_T78 t717 x9_4).f1).toList) == (((rd_T78 l0 x9_4).f1).toList)) || (!(((rd_T78 t717 x9_4).f2) == ((rd_T78 l0 x9_4).f2))))) = true := c64
                                    have c64b8 := limbs_nand c51b0 c64b0
                                    have c64b9 := limbs_or c51b0 c64b0
                                    clear c64
                                    obtain rfl := Option.some.inj H
                                    obtain ⟨Ao65, co65, eo65⟩ := Kd.R_slice HO_5.out
                                    subst eo65
                                    have p730 : 0 ≤ (x9_4 : Int) := of_decide_eq_true (by first | (with_reducible assumption) | assumption)
                                    have q730 : x9_4 < (t717.length : Int) := of_decide_eq_true (by first | (with_reducible assumption) | assumption)
                                    obtain ⟨ad730, e730, hx730_0, hx730_1, hx730_2⟩ := at_T78 (Kd.R_reads' HO_5.out).2.2 x9_4 p730 q730
                                    cases e730
                                    replace p730 := eq_true p730
                                    replace q730 := eq_true q730
                                    have p731 : 0 ≤ (x9_4 : Int) := of_decide_eq_true (by first | (with_reducible assumption) | assumption)
                                    have q731 : x9_4 < (l0.length : Int) := of_decide_eq_true (by first | (with_reducible assumption) | assumption)
                                    obtain ⟨ad731, e731, hx731_0, hx731_1, hx731_2⟩ := at_T78 HR0.out x9_4 p731 q731
                                    cases e731
                                    replace hx731_0 := (HB.out.cell (World.block_lt_of_cell? w _ hx731_0)).trans hx731_0
                                    replace hx731_1 := (HB.out.cell (World.block_lt_of_cell? w _ hx731_1)).trans hx731_1
                                    replace hx731_2 := (HB.out.cell (World.block_lt_of_cell? w _ hx731_2)).trans hx731_2
                                    replace p731 := eq_true p731
                                    replace q731 := eq_true q731
                                    have p732 : 0 ≤ (x9_4 : Int) := of_decide_eq_true (by first | (with_reducible assumption) | assumption)
                                    have q732 : x9_4 < (t717.length : Int) := of_decide_eq_true (by first | (with_reducible assumption) | assumption)
                                    obtain ⟨ad732, e732, hx732_0, hx732_1, hx732_2⟩ := at_T78 (Kd.R_reads' HO_5.out).2.2 x9_4 p732 q732
                                    obtain rfl : ad730 = ad732 := (by injection e732)
                                    replace p732 := eq_true p732
                                    replace q732 := eq_true q732
                                    have p733 : 0 ≤ (x9_4 : Int) := of_decide_eq_true (by first | (with_reducible assumption) | assumption)
                                    have q733 : x9_4 < (l0.length : Int) := of_decide_eq_true (by first | (with_reducible assumption) | assumption)
                                    obtain ⟨ad733, e733, hx733_0, hx733_1, hx733_2⟩ := at_T78 HR0.out x9_4 p733 q733
                                    obtain rfl : ad731 = ad733 := (by injection e733)
                                    replace hx733_0 := (HB.out.cell (World.block_lt_of_cell? w _ hx733_0)).trans hx733_0
                                    replace hx733_1 := (HB.out.cell (World.block_lt_of_cell? w _ hx733_1)).trans hx733_1
                                    replace hx733_2 := (HB.out.cell (World.block_lt_of_cell? w _ hx733_2)).trans hx733_2
                                    replace p733 := eq_true p733
                                    replace q733 := eq_true q733
                                    have p735 : 0 ≤ (x9_4 : Int) := of_decide_eq_true (by first | (with_reducible assumption) | assumption)
                                    have q735 : x9_4 < (t717.length : Int) := of_decide_eq_true (by first | (with_reducible assumption) | assumption)
                                    obtain ⟨ad735, e735, hx735_0, hx735_1, hx735_2⟩ := at_T78 (Kd.R_reads' HO_5.out).2.2 x9_4 p735 q735
                                    obtain rfl : ad730 = ad735 := (by injection e735)
                                    replace p735 := eq_true p735
                                    replace q735 := eq_true q735
                                    have p736 : 0 ≤ (x9_4 : Int) := of_decide_eq_true (by first | (with_reducible assumption) | assumption)
                                    have q736 : x9_4 < (l0.length : Int) := of_decide_eq_true (by first | (with_reducible assumption) | assumption)
                                    obtain ⟨ad736, e736, hx736_0, hx736_1, hx736_2⟩ := at_T78 HR0.out x9_4 p736 q736
                                    obtain rfl : ad731 = ad736 := (by injection e736)
                                    replace hx736_0 := (HB.out.cell (World.block_lt_of_cell? w _ hx736_0)).trans hx736_0
                                    replace hx736_1 := (HB.out.cell (World.block_lt_of_cell? w _ hx736_1)).trans hx736_1
                                    replace hx736_2 := (HB.out.cell (World.block_lt_of_cell? w _ hx736_2)).trans hx736_2
                                    replace p736 := eq_true p736
                                    replace q736 := eq_true q736
                                    go_wp2
                                    repeat (go_quiet (fail); try go_wp2)
                                    go_ret
                                    exact ⟨by first | rfl | (simp [errW_none, errW_some] <;> rfl) | (simp [*, errW_none, errW_some] <;> rfl), by repeat (first | (with_reducible first | exact HB.out | apply below_alloc | apply pw_below_drewN | apply below_drew1 | refine below_set ?_ GE712.out | refine below_set ?_ GE726.out) | exact HB.out)⟩
                                  · rw [if_neg c64] at H
                                    have c64b0 : (!((((rd_T78 t717 x9_4).f0).toList) == (((rd_T78 l0 x9_4).f0).toList)) || (!((((rd_T78 t717 x9_4).f1).toList) == (((rd_T78 l0 x9_4).f1).toList)) || (!(((rd_T78 t717 x9_4).f2) == ((rd_T78 l0 x9_4).f2))))) = false := by simpa using c64
                                    have c64b8 := limbs_and c51b0 c64b0
                                    have c64b9 := limbs_or c51b0 c64b0
                                    clear c64
                                    have H' := Aside0.mk H
                                    clear H
                                    obtain ⟨Ao66, co66, eo66⟩ := Kd.R_slice HO_5.out
                                    subst eo66
                                    have p730 : 0 ≤ (x9_4 : Int) := of_decide_eq_true (by first | (with_reducible assumption) | assumption)
                                    have q730 : x9_4 < (t717.length : Int) := of_decide_eq_true (by first | (with_reducible assumption) | assumption)
                                    obtain ⟨ad730, e730, hx730_0, hx730_1, hx730_2⟩ := at_T78 (Kd.R_reads' HO_5.out).2.2 x9_4 p730 q730
                                    cases e730
                                    replace p730 := eq_true p730
                                    replace q730 := eq_true q730
                                    have p731 : 0 ≤ (x9_4 : Int) := of_decide_eq_true (by first | (with_reducible assumption) | assumption)
                                    have q731 : x9_4 < (l0.length : Int) := of_decide_eq_true (by first | (with_reducible assumption) | assumption)
                                    obtain ⟨ad731, e731, hx731_0, hx731_1, hx731_2⟩ := at_T78 HR0.out x9_4 p731 q731
                                    cases e731
                                    replace hx731_0 := (HB.out.cell (World.block_lt_of_cell? w _ hx731_0)).trans hx731_0
                                    replace hx731_1 := (HB.out.cell (World.block_lt_of_cell? w _ hx731_1)).trans hx731_1
                                    replace hx731_2 := (HB.out.cell (World.block_lt_of_cell? w _ hx731_2)).trans hx731_2
                                    replace p731 := eq_true p731
                                    replace q731 := eq_true q731
                                    have p732 : 0 ≤ (x9_4 : Int) := of_decide_eq_true (by first | (with_reducible assumption) | assumption)
                                    have q732 : x9_4 < (t717.length : Int) := of_decide_eq_true (by first | (with_reducible assumption) | assumption)
                                    obtain ⟨ad732, e732, hx732_0, hx732_1, hx732_2⟩ := at_T78 (Kd.R_reads' HO_5.out).2.2 x9_4 p732 q732
                                    obtain rfl : ad730 = ad732 := (by injection e732)
                                    replace p732 := eq_true p732
                                    replace q732 := eq_true q732
                                    have p733 : 0 ≤ (x9_4 : Int) := of_decide_eq_true (by first | (with_reducible assumption) | assumption)
                                    have q733 : x9_4 < (l0.length : Int) := of_decide_eq_true (by first | (with_reducible assumption) | assumption)
                                    obtain ⟨ad733, e733, hx733_0, hx733_1, hx733_2⟩ := at_T78 HR0.out x9_4 p733 q733
                                    obtain rfl : ad731 = ad733 := (by injection e733)
                                    replace hx733_0 := (HB.out.cell (World.block_lt_of_cell? w _ hx733_0)).trans hx733_0
                                    replace hx733_1 := (HB.out.cell (World.block_lt_of_cell? w _ hx733_1)).trans hx733_1
                                    replace hx733_2 := (HB.out.cell (World.block_lt_of_cell? w _ hx733_2)).trans hx733_2
                                    replace p733 := eq_true p733
                                    replace q733 := eq_true q733
                                    have p735 : 0 ≤ (x9_4 : Int) := of_decide_eq_true (by first | (with_reducible assumption) | assumption)
                                    have q735 : x9_4 < (t717.length : Int) := of_decide_eq_true (by first | (with_reducible assumption) | assumption)
                                    obtain ⟨ad735, e735, hx735_0, hx735_1, hx735_2⟩ := at_T78 (Kd.R_reads' HO_5.out).2.2 x9_4 p735 q735
                                    obtain rfl : ad730 = ad735 := (by injection e735)
                                    replace p735 := eq_true p735
                                    replace q735 := eq_true q735
                                    have p736 : 0 ≤ (x9_4 : Int) := of_decide_eq_true (by first | (with_reducible assumption) | assumption)
                                    have q736 : x9_4 < (l0.length : Int) := of_decide_eq_true (by first | (with_reducible assumption) | assumption)
                                    obtain ⟨ad736, e736, hx736_0, hx736_1, hx736_2⟩ := at_T78 HR0.out x9_4 p736 q736
                                    obtain rfl : ad731 = ad736 := (by injection e736)
                                    replace hx736_0 := (HB.out.cell (World.block_lt_of_cell? w _ hx736_0)).trans hx736_0
                                    replace hx736_1 := (HB.out.cell (World.block_lt_of_cell? w _ hx736_1)).trans hx736_1
                                    replace hx736_2 := (HB.out.cell (World.block_lt_of_cell? w _ hx736_2)).trans hx736_2
                                    replace p736 := eq_true p736
                                    replace q736 := eq_true q736
                                    go_wp2
                                    repeat (go_quiet (fail); try go_wp2)
                                    go_roundg k4
                                    case measure => have := HJ2.out; have := HJ18.out; have := HJ30.out; have := HK4.out; omega
                                    case rel => exact ⟨(wrap64 (x9_4 + 1)), (by first | rfl | (simp; done) | (simp [*]; done)), H', ⟨by have := HJ2.out; have := HJ18.out; have := HJ30.out; have := HK4.out; omega⟩, ⟨by (with_reducible repeat (first | apply Kd.R_alloc | apply Kd.R_drewN | apply Kd.R_drew)); exact HO_5.out⟩, ⟨by (with_reducible repeat (first | refine blk_drewN ?_ _ | refine blk_drew ?_ | refine blk_alloc ?_ _)); exact BK712.out⟩, ⟨by (with_reducible repeat (first | refine blk_drewN ?_ _ | refine blk_drew ?_ | refine blk_alloc ?_ _)); exact BK726.out⟩, ⟨by repeat (first | (with_reducible first | exact HB.out | apply below_alloc | apply pw_below_drewN | apply below_drew1 | refine below_set ?_ GE712.out | refine below_set ?_ GE726.out) | exact HB.out)⟩⟩
                            · rw [if_neg c51] at H
                              have c51b0 : (((rd_T78 t717 x9_4).f0).toList == ((rd_T78 l0 x9_4).f0).toList) = false := beq_eq_false_iff_ne.mpr c51
                              have c51b1 : (((rd_T78 t717 x9_4).f0).toList != ((rd_T78 l0 x9_4).f0).toList) = true := bne_iff_ne.mpr c51
                              obtain rfl := Option.some.inj H
                              obtain ⟨Ao67, co67, eo67⟩ := Kd.R_slice HO_5.out
                              subst eo67
                              have p730 : 0 ≤ (x9_4 : Int) := of_decide_eq_true (by first | (with_reducible assumption) | assumption)
                              have q730 : x9_4 < (t717.length : Int) := of_decide_eq_true (by first | (with_reducible assumption) | assumption)
                              obtain ⟨ad730, e730, hx730_0, hx730_1, hx730_2⟩ := at_T78 (Kd.R_reads' HO_5.out).2.2 x9_4 p730 q730
                              cases e730
                              replace p730 := eq_true p730
                              replace q730 := eq_true q730
                              have p731 : 0 ≤ (x9_4 : Int) := of_decide_eq_true (by first | (with_reducible assumption) | assumption)
                              have q731 : x9_4 < (l0.length : Int) := of_decide_eq_true (by first | (with_reducible assumption) | assumption)
                              obtain ⟨ad731, e731, hx731_0, hx731_1, hx731_2⟩ := at_T78 HR0.out x9_4 p731 q731
                              cases e731
                              replace hx731_0 := (HB.out.cell (World.block_lt_of_cell? w _ hx731_0)).trans hx731_0
                              replace hx731_1 := (HB.out.cell (World.block_lt_of_cell? w _ hx731_1)).trans hx731_1
                              replace hx731_2 := (HB.out.cell (World.block_lt_of_cell? w _ hx731_2)).trans hx731_2
                              replace p731 := eq_true p731
                              replace q731 := eq_true q731
                              go_wp2
                              repeat (go_quiet (fail); try go_wp2)
                              go_ret
                              exact ⟨by first | rfl | (simp [errW_none, errW_some] <;> rfl) | (simp [*, errW_none, errW_some] <;> rfl), by repeat (first | (with_reducible first | exact HB.out | apply below_alloc | apply pw_below_drewN | apply below_drew1 | refine below_set ?_ GE712.out | refine below_set ?_ GE726.out) | exact HB.out)⟩
                          · rw [if_neg c50] at H
                            exact absurd H (by simp)
                        · rw [if_neg c49] at H
                          exact absurd H (by simp)
                      · rw [if_neg c48] at H
                        have c48b0 : decide (x9_4 < (l0.length : Int)) = false := decide_eq_false c48
                        clear c48
                        replace H := Option.bind_eq_some_iff.mp H
                        obtain ⟨t737, A680, H⟩ := H
                        replace H : (some t737) = some r := H
                        have A68 := Aside0.mk A680
                        clear A680
                        obtain rfl := Option.some.inj H
                        go_wp2_with (first | (go_at_call 63; (with_reducible refine (changeoverlaw24_awake.calls k4  t737 _ A68.out).mono ?_); rintro e w69 ⟨rfl, hb⟩; have n0_ := Aside0.mk (Kd.R_below (by (with_reducible repeat (first | apply Kd.R_alloc | apply Kd.R_drewN | apply Kd.R_drew)); exact HO_5.out) hb); have n1_ := Aside0.mk (blk_below (g := gb712) (o := .cells #[.int .i64 5, .int .i64 a1_1, .int .i64 a1_2, .string a1_3, .string a1_4, .string a1_5, .int .i64 a1_6] 72 (0, 0)) (by (with_reducible repeat (first | refine blk_drewN ?_ _ | refine blk_drew ?_ | refine blk_alloc ?_ _)); exact BK712.out) hb); have n2_ := Aside0.mk (blk_below (g := gb726) (o := .cells #[.int .i64 t720, .int .i64 t721, .int .i64 t722, .bool t723, .string t724, .int .i64 t725] 60 (0, 0)) (by (with_reducible repeat (first | refine blk_drewN ?_ _ | refine blk_drew ?_ | refine blk_alloc ?_ _)); exact BK726.out) hb); have n3_ := Aside0.mk (below_step (by repeat (first | (with_reducible first | exact HB.out | apply below_alloc | apply pw_below_drewN | apply below_drew1 | refine below_set ?_ GE712.out | refine below_set ?_ GE726.out) | exact HB.out)) hb); clear HO_5; clear BK712; clear BK726; clear HB; have HO_5 := n0_; have BK712 := n1_; have BK726 := n2_; have HB := n3_; clear n0_ n1_ n2_ n3_; (try clear hb); (try clear hb2); (try clear hk); (try clear hi)))
                        repeat (go_quiet (first | (go_at_call 63; (with_reducible refine (changeoverlaw24_awake.calls k4  t737 _ A68.out).mono ?_); rintro e w69 ⟨rfl, hb⟩; have n0_ := Aside0.mk (Kd.R_below (by (with_reducible repeat (first | apply Kd.R_alloc | apply Kd.R_drewN | apply Kd.R_drew)); exact HO_5.out) hb); have n1_ := Aside0.mk (blk_below (g := gb712) (o := .cells #[.int .i64 5, .int .i64 a1_1, .int .i64 a1_2, .string a1_3, .string a1_4, .string a1_5, .int .i64 a1_6] 72 (0, 0)) (by (with_reducible repeat (first | refine blk_drewN ?_ _ | refine blk_drew ?_ | refine blk_alloc ?_ _)); exact BK712.out) hb); have n2_ := Aside0.mk (blk_below (g := gb726) (o := .cells #[.int .i64 t720, .int .i64 t721, .int .i64 t722, .bool t723, .string t724, .int .i64 t725] 60 (0, 0)) (by (with_reducible repeat (first | refine blk_drewN ?_ _ | refine blk_drew ?_ | refine blk_alloc ?_ _)); exact BK726.out) hb); have n3_ := Aside0.mk (below_step (by repeat (first | (with_reducible first | exact HB.out | apply below_alloc | apply pw_below_drewN | apply below_drew1 | refine below_set ?_ GE712.out | refine below_set ?_ GE726.out) | exact HB.out)) hb); clear HO_5; clear BK712; clear BK726; clear HB; have HO_5 := n0_; have BK712 := n1_; have BK726 := n2_; have HB := n3_; clear n0_ n1_ n2_ n3_; (try clear hb); (try clear hb2); (try clear hk); (try clear hi))); try go_wp2_with (first | (go_at_call 63; (with_reducible refine (changeoverlaw24_awake.calls k4  t737 _ A68.out).mono ?_); rintro e w69 ⟨rfl, hb⟩; have n0_ := Aside0.mk (Kd.R_below (by (with_reducible repeat (first | apply Kd.R_alloc | apply Kd.R_drewN | apply Kd.R_drew)); exact HO_5.out) hb); have n1_ := Aside0.mk (blk_below (g := gb712) (o := .cells #[.int .i64 5, .int .i64 a1_1, .int .i64 a1_2, .string a1_3, .string a1_4, .string a1_5, .int .i64 a1_6] 72 (0, 0)) (by (with_reducible repeat (first | refine blk_drewN ?_ _ | refine blk_drew ?_ | refine blk_alloc ?_ _)); exact BK712.out) hb); have n2_ := Aside0.mk (blk_below (g := gb726) (o := .cells #[.int .i64 t720, .int .i64 t721, .int .i64 t722, .bool t723, .string t724, .int .i64 t725] 60 (0, 0)) (by (with_reducible repeat (first | refine blk_drewN ?_ _ | refine blk_drew ?_ | refine blk_alloc ?_ _)); exact BK726.out) hb); have n3_ := Aside0.mk (below_step (by repeat (first | (with_reducible first | exact HB.out | apply below_alloc | apply pw_below_drewN | apply below_drew1 | refine below_set ?_ GE712.out | refine below_set ?_ GE726.out) | exact HB.out)) hb); clear HO_5; clear BK712; clear BK726; clear HB; have HO_5 := n0_; have BK712 := n1_; have BK726 := n2_; have HB := n3_; clear n0_ n1_ n2_ n3_; (try clear hb); (try clear hb2); (try clear hk); (try clear hi))))
                        go_ret
                        exact ⟨by first | rfl | (simp [errW_none, errW_some] <;> rfl) | (simp [*, errW_none, errW_some] <;> rfl), by repeat (first | (with_reducible first | exact HB.out | apply below_alloc | apply pw_below_drewN | apply below_drew1 | refine below_set ?_ GE712.out | refine below_set ?_ GE726.out) | exact HB.out)⟩

end Go.Proofs.Ytalpmbeddldfoaa.PA
