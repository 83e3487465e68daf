-- A text that a program wrote for this claim (print.py over stand-in bodies, tool/pr.sh).
import Derived.Test.YtalpmbeddldfoaaDoorF0
import Derived.Test.YtalpmbeddldfoaaDoorHandB
import Derived.Test.YtalpmbeddldfoaaDoorHandS
namespace Go.Proofs.YtalpmbeddldfoaaDoor.PA
open Go.RowKit Go.Proofs.YtalpmbeddldfoaaDoor.Hand Go.Proofs.YtalpmbeddldfoaaDoorW.PrintWords Go.Proofs.YtalpmbeddldfoaaDoorW.PrintLast Go.Proofs.YtalpmbeddldfoaaDoorW.PrintMore
attribute [local go_sem] max2_int min2_int max_two min_two max_three min_three max_four min_four   -- for this text's walks alone
attribute [local go_sem high] str_leq str_gtr str_geq
set_option linter.unusedVariables false
set_option linter.unusedSimpArgs false

/-! ### kvone_place: function 85 -/
def kvone_place.l0 : Nat → List (S50) → ByteArray → Int → Int → Option (Int × Bool)
  | 0, _, _, _, _ => none
  | k + 1, x0, x1, x6, x7 => if x6 < x7 then (if 0 ≤ (wrap64 ((IntKind.u64.wrap (wrap64 (x6 + x7))) / 2)) then (if (wrap64 ((IntKind.u64.wrap (wrap64 (x6 + x7))) / 2)) < (x0.length : Int) then (if (Op.bytesLess (((rd_T50 x0 (wrap64 ((IntKind.u64.wrap (wrap64 (x6 + x7))) / 2))).f0).toList) x1.toList) = true then (kvone_place.l0 k x0 x1 (wrap64 ((wrap64 ((IntKind.u64.wrap (wrap64 (x6 + x7))) / 2)) + 1)) x7) else (kvone_place.l0 k x0 x1 x6 (wrap64 ((IntKind.u64.wrap (wrap64 (x6 + x7))) / 2)))) else (none)) else (none)) else (if x6 < (x0.length : Int) then (if 0 ≤ x6 then (some (x6, (((rd_T50 x0 x6).f0).toList == x1.toList))) else (none)) else (some (x6, false)))
def kvone_place.f (k : Nat) (l0 : List (S50)) (a1 : ByteArray) : Option (Int × Bool) := kvone_place.l0 k l0 a1 0 (l0.length : Int)
theorem kvone_place.mono_l : ∀ k, (∀ y0 y1 y2 y3, LeO (kvone_place.l0 k y0 y1 y2 y3) (kvone_place.l0 (k + 1) y0 y1 y2 y3))
  | 0 => fun _ _ _ _ r h => by simp [kvone_place.l0] at h
  | k + 1 => by
    have ih0 := kvone_place.mono_l k
    · intro y0 y1 y2 y3
      unfold kvone_place.l0
      repeat' first
      | (with_reducible exact ih0 _ _ _ _)
      | (with_reducible exact LeO.refl _)
      | (with_reducible exact LeO.none _)
      | (with_reducible refine LeO.ite ?_ ?_)
      | (with_reducible refine LeO.bind ?_ (fun _ => ?_))
      | exact ih0 _ _ _ _
      | exact LeO.none _
      | refine LeO.ite ?_ ?_
      | refine LeO.bind ?_ (fun _ => ?_)
theorem kvone_place.mono : ∀ a0 a1 k, LeO (kvone_place.f k a0 a1) (kvone_place.f (k + 1) a0 a1) := by
  intro a0 a1 k
  have ih0 := kvone_place.mono_l k
  unfold kvone_place.f
  repeat' first
      | (with_reducible exact ih0 _ _ _ _)
      | (with_reducible exact LeO.refl _)
      | (with_reducible exact LeO.none _)
      | (with_reducible refine LeO.ite ?_ ?_)
      | (with_reducible refine LeO.bind ?_ (fun _ => ?_))
      | exact ih0 _ _ _ _
      | exact LeO.none _
      | refine LeO.ite ?_ ?_
      | refine LeO.bind ?_ (fun _ => ?_)
set_option maxHeartbeats 8000000 in
set_option maxRecDepth 100000 in
theorem kvone_place.calls (k : Nat) (A0 : Option Addr) (c0 : Nat) (l0 : List (S50)) (a1 : ByteArray) (r1 : Int) (r2 : Bool) (w : World) (hr0 : Kd.C k50 w A0 l0.length l0) (hc0 : l0.length ≤ c0) (h : kvone_place.f k l0 a1 = some (r1, r2)) :
    Calls Tryd.prog 85 #[.slice A0 l0.length c0, .string a1] w fun e w' => e = .returned (.tuple #[.int .i64 r1, .bool r2]) ∧ Below w.heap.size w w' := by
  have e : ∀ k i j, kvone_place.l0 k l0 a1 i j = bs (l0.length : Int) (fun i => Lib.compareBytes (rd_T50 l0 i).f0.data.toList a1.data.toList) k i j := by
    intro k
    induction k with
    | zero => intro i j; rfl
    | succ k ih => intro i j; simp only [kvone_place.l0, bs, compareBytes_neg, compareBytes_zero, Lib.toList_data, ih]
  have h' := (e k 0 (l0.length : Int)).symm.trans h
  clear e h
  have HR := Aside0.mk hr0
  have HC := Aside0.mk hc0
  have HH := Aside0.mk h'
  clear hr0 hc0 h'
  go_enter Tryd.func85, Tryd.ntmps85
  go_wp2_with (go_at_call 119; refine (bsf_kvone_place k _ _ l0 a1 r1 r2 _ HR.out HC.out HH.out).mono ?_; rintro e w2 ⟨rfl, hb2⟩; have HB := Aside0.mk hb2; clear hb2)
  go_ret2
  exact ⟨rfl, HB.out⟩
end Go.Proofs.YtalpmbeddldfoaaDoor.PA
