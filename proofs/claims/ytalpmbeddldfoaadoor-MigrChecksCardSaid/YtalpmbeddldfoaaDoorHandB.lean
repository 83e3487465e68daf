/- The contracts of cmp.Compare at int, the closures handed to slices.BinarySearchFunc, and that search itself. -/
import Derived.Test.YtalpmbeddldfoaaDoorF0
namespace Go.Proofs.YtalpmbeddldfoaaDoor.PA
open Go.RowKit Go.Proofs.YtalpmbeddldfoaaDoor.Hand Go.Proofs.YtalpmbeddldfoaaDoorW.PrintWords Go.Proofs.YtalpmbeddldfoaaDoorW.PrintLast Go.Proofs.YtalpmbeddldfoaaDoorW.PrintMore
set_option linter.unusedVariables false
set_option linter.unusedSimpArgs false
theorem Qm (a : Int) (w : World) : Calls Tryd.prog 157 #[.int .i64 a] w fun e w' => e = .returned (.bool false) ∧ w = w' := by
 go_enter Tryd.func157, Tryd.ntmps157
 go_wp2
 go_ret
 simp
def Vz (a b : Int) : Int := if a < b then -1 else if b < a then 1 else 0
theorem Zq (a b : Int) (w : World) : Calls Tryd.prog 140 #[.int .i64 a, .int .i64 b] w fun e w' => e = .returned (.int .i64 (Vz a b)) ∧ w = w' := by
 unfold Vz
 by_cases h : a < b
 ·have h1 : ¬ b < a := by omega
  rw [if_pos h]
  go_enter Tryd.func140, Tryd.ntmps140
  go_wp2_with (go_at_call 157; refine (Qm _ _).mono ?_; rintro e w' ⟨rfl, rfl⟩)
  go_ret
  simp
 ·rw [if_neg h]
  by_cases h1 : b < a
  ·rw [if_pos h1]
   go_enter Tryd.func140, Tryd.ntmps140
   go_wp2_with (go_at_call 157; refine (Qm _ _).mono ?_; rintro e w' ⟨rfl, rfl⟩)
   go_ret
   simp
  ·rw [if_neg h1]
   go_enter Tryd.func140, Tryd.ntmps140
   go_wp2_with (go_at_call 157; refine (Qm _ _).mono ?_; rintro e w' ⟨rfl, rfl⟩)
   go_ret
   simp
def bs (n : Int) (c : Int → Int) : Nat → Int → Int → Option (Int × Bool)
 | 0, _, _ => none
 | k + 1, i, j =>
  if i < j then
   (if 0 ≤ (wrap64 ((IntKind.u64.wrap (wrap64 (i + j))) / 2)) then
    (if (wrap64 ((IntKind.u64.wrap (wrap64 (i + j))) / 2)) < n then
     (if c (wrap64 ((IntKind.u64.wrap (wrap64 (i + j))) / 2)) < 0 then bs n c k (wrap64 ((wrap64 ((IntKind.u64.wrap (wrap64 (i + j))) / 2)) + 1)) j
      else bs n c k i (wrap64 ((IntKind.u64.wrap (wrap64 (i + j))) / 2))) else none) else none)
  else (if i < n then (if 0 ≤ i then some (i, (c i == 0)) else none) else some (i, false))
theorem cmpI_neg (a b : Int) : (Vz a b < 0) = (a < b) := by
 unfold Vz
 apply propext
 split
 ·simp [*]
 ·split <;> simp [*]
theorem cmpI_zero (a b : Int) : (Vz a b == 0) = (a == b) := by
 unfold Vz
 rw [Bool.eq_iff_iff]
 simp only [beq_iff_eq]
 split
 ·constructor <;> intro h <;> omega
 ·split
  ·constructor <;> intro h <;> omega
  ·constructor <;> intro h <;> omega
theorem jS : ∀ a b : List UInt8, (Lib.compareBytes a b < 0) = (Op.bytesLess a b = true)
 | [], [] => by simp [Lib.compareBytes, Op.bytesLess]
 | [], _ :: _ => by simp [Lib.compareBytes, Op.bytesLess]
 | _ :: _, [] => by simp [Lib.compareBytes, Op.bytesLess]
 | x :: xs, y :: ys => by
  have ih := jS xs ys
  simp only [Lib.compareBytes, Op.bytesLess]
  by_cases h : x < y
  ·simp [h]
  ·by_cases e : x = y
   ·subst e
    simp [h, ih]
   ·have h1 : y < x := by
     rw [UInt8.lt_iff_toNat_lt] at h ⊢
     have : x.toNat ≠ y.toNat := fun q => e (UInt8.toNat_inj.mp q)
     omega
    simp [h, h1, e]
theorem jG : ∀ a b : List UInt8, (Lib.compareBytes a b == 0) = (a == b)
 | [], [] => by simp [Lib.compareBytes]
 | [], _ :: _ => by simp [Lib.compareBytes]
 | _ :: _, [] => by simp [Lib.compareBytes]
 | x :: xs, y :: ys => by
  have ih := jG xs ys
  simp only [Lib.compareBytes]
  by_cases h : x < y
  ·have e : ¬ x = y := by
    rintro rfl
    rw [UInt8.lt_iff_toNat_lt] at h
    omega
   simp [h, e]
  ·by_cases e : x = y
   ·subst e
    simp [h, ih]
   ·have h1 : y < x := by
     rw [UInt8.lt_iff_toNat_lt] at h ⊢
     have : x.toNat ≠ y.toNat := fun q => e (UInt8.toNat_inj.mp q)
     omega
    simp [h, h1, e]
theorem cmpstr_run (a b : ByteArray) (w : World) : (callFunc 161 #[.string a, .string b]).run Tryd.prog w = .ok (.value (.int .i64 (Lib.compareBytes a.data.toList b.data.toList))) w := by
 rw [run_callFunc_extern Tryd.func161 (by kernel_rfl) (by kernel_rfl) (by kernel_rfl) (e := Extern.BytealgCompare.compare) (by kernel_rfl), Lib.run_compareString]
 rfl
theorem Qx (a b : ByteArray) (w : World) : Calls Tryd.prog 145 #[.string a, .string b] w fun e w' => e = .returned (.int .i64 (Lib.compareBytes a.data.toList b.data.toList)) ∧ w = w' := by
 have hx := cmpstr_run a b
 go_enter Tryd.func145, Tryd.ntmps145
 go_wp2_with (simp only [hx])
 go_ret
 exact ⟨rfl, rfl⟩
theorem Qf (a b : ByteArray) (w : World) : Calls Tryd.prog 121 #[.string a, .string b] w fun e w' => e = .returned (.int .i64 (Lib.compareBytes a.data.toList b.data.toList)) ∧ w = w' := by
 go_enter Tryd.func121, Tryd.ntmps121
 go_wp2_with (go_at_call 145; refine (Qx _ _ _).mono ?_; rintro e w' ⟨rfl, rfl⟩)
 go_ret
 exact ⟨rfl, rfl⟩
def VH (a b : ByteArray) : Int := if Op.bytesLess a.toList b.toList = true then -1 else if Op.bytesLess b.toList a.toList = true then 1 else 0
theorem jk (x : zo) (b : Int) (w : World) :
 Calls Tryd.prog 139 #[.agg #[.int .i64 x.f0, .int .i64 x.f1, .int .i64 x.f2.f0, .int .i64 x.f2.f1, .int .i64 x.f2.f2, .bool x.f2.f3, .string x.f2.f4, .int .i64 x.f2.f5], .int .i64 b] w
  fun e w' => e = .returned (.int .i64 (Vz x.f0 b)) ∧ Below w.heap.size w w' := by
 go_enter Tryd.func139, Tryd.ntmps139
 go_wp2_with (go_at_call 140; refine (Zq _ _ _).mono ?_; rintro e w' ⟨rfl, rfl⟩)
 go_ret
 exact ⟨rfl, (Below.refl _ _).alloc (Nat.le_refl _) _⟩
set_option maxHeartbeats 4000000 in
set_option maxRecDepth 100000 in
theorem bsf_sess_place (k : Nat) (A0 : Option Addr) (c0 : Nat) (l0 : List (zo)) (a1 : Int) (r1 : Int) (r2 : Bool) (w : World) (hr0 : Kd.C jW w A0 l0.length l0) (hc0 : l0.length ≤ c0)
 (h : bs (l0.length : Int) (fun i => Vz (qf l0 i).f0 a1) k 0 (l0.length : Int) = some (r1, r2)) :
 Calls Tryd.prog 138 #[.slice A0 l0.length c0, .int .i64 a1, .func (.func 139) #[] #[]] w fun e w' => e = .returned (.tuple #[.int .i64 r1, .bool r2]) ∧ Below w.heap.size w w' := by
 have HR0 := qb.mk hr0
 have HC0 := qb.mk hc0
 clear hr0 hc0
 have HB := qb.mk (Below.refl w.heap.size w)
 have H' := qb.mk h
 clear h
 go_enter Tryd.func138, Tryd.ntmps138
 go_wp2
 go_loopg [9, 10] k (fun kq v6 v7 w' => ∃ (i : Int) (j : Int), v6 = .int .i64 i ∧ v7 = .int .i64 j ∧ qb (bs (l0.length : Int) (fun i => Vz (qf l0 i).f0 a1) kq i j = some (r1, r2)) ∧ qb (kq ≤ k) ∧ qb (Below w.heap.size w w'))
 case atStart => exact ⟨0, (l0.length : Int), (by first | rfl | (simp; done) | (simp [*]; done)), (by first | rfl | (simp; done) | (simp [*]; done)), H', ⟨Nat.le_refl _⟩, ⟨by repeat (first | (with_reducible first | exact HB.out | apply qd | apply qa | apply qc) | exact HB.out)⟩⟩
 case round =>
  clear H' HB
  obtain ⟨i, j, rfl, rfl, HA, HK1, HB⟩ := hrel
  cases gk with
  | zero => exact absurd HA.out (by simp [bs])
  | succ k1 =>
   have H := HA.out
   clear HA
   simp only [bs] at H
   by_cases c3 : i < j
   ·rw [if_pos c3] at H
    have c3b0 : decide (i < j) = true := decide_eq_true c3
    clear c3
    obtain ⟨q, hq⟩ : ∃ j_ : Int, (wrap64 ((IntKind.u64.wrap (wrap64 (i + j))) / 2)) = j_ := ⟨_, rfl⟩
    rw [hq] at H
    have hqw : (IntKind.i64.wrap ((IntKind.u64.wrap (wrap64 (i + j))) / 2)) = q := (qm _).trans hq
    by_cases c5 : 0 ≤ q
    ·rw [if_pos c5] at H
     by_cases c6 : q < (l0.length : Int)
     ·rw [if_pos c6] at H
      obtain ⟨ad, e, hx0, hx1, hx2, hx3, hx4, hx5, hx6, hx7⟩ := zp HR0.out q c5 c6
      cases e
      replace hx0 := (HB.out.cell (World.block_lt_of_cell? w _ hx0)).trans hx0
      replace hx1 := (HB.out.cell (World.block_lt_of_cell? w _ hx1)).trans hx1
      replace hx2 := (HB.out.cell (World.block_lt_of_cell? w _ hx2)).trans hx2
      replace hx3 := (HB.out.cell (World.block_lt_of_cell? w _ hx3)).trans hx3
      replace hx4 := (HB.out.cell (World.block_lt_of_cell? w _ hx4)).trans hx4
      replace hx5 := (HB.out.cell (World.block_lt_of_cell? w _ hx5)).trans hx5
      replace hx6 := (HB.out.cell (World.block_lt_of_cell? w _ hx6)).trans hx6
      replace hx7 := (HB.out.cell (World.block_lt_of_cell? w _ hx7)).trans hx7
      have c5b0 : decide (0 ≤ q) = true := decide_eq_true c5
      have c6b0 : decide (q < (l0.length : Int)) = true := decide_eq_true c6
      replace c5 := eq_true c5
      replace c6 := eq_true c6
      by_cases c7 : Vz (qf l0 q).f0 a1 < 0
      ·rw [if_pos c7] at H
       have c7b0 : decide (Vz (qf l0 q).f0 a1 < 0) = true := decide_eq_true c7
       clear c7
       have H' := qb.mk H
       clear H
       go_wp2_with (go_at_call 139; (refine (jk (qf l0 q) a1 _).mono ?_); rintro e w2 ⟨rfl, hb2⟩; replace HB := qb.mk (qB HB.out hb2); clear hb2)
       go_roundg k1
       case measure => have := HK1.out; omega
       case rel => exact ⟨(wrap64 (q + 1)), j, (by first | rfl | (simp; done) | (simp [*]; done)), (by first | rfl | (simp; done) | (simp [*]; done)), H', ⟨by have := HK1.out; omega⟩, ⟨HB.out⟩⟩
      ·rw [if_neg c7] at H
       have c7b0 : decide (Vz (qf l0 q).f0 a1 < 0) = false := decide_eq_false c7
       clear c7
       have H' := qb.mk H
       clear H
       go_wp2_with (go_at_call 139; (refine (jk (qf l0 q) a1 _).mono ?_); rintro e w2 ⟨rfl, hb2⟩; replace HB := qb.mk (qB HB.out hb2); clear hb2)
       go_roundg k1
       case measure => have := HK1.out; omega
       case rel => exact ⟨i, q, (by first | rfl | (simp; done) | (simp [*]; done)), (by first | rfl | (simp; done) | (simp only [← hq] <;> (first | rfl | simp)) | (simp [*]; done)), H', ⟨by have := HK1.out; omega⟩, ⟨HB.out⟩⟩
     ·rw [if_neg c6] at H
      exact absurd H (by simp)
    ·rw [if_neg c5] at H
     exact absurd H (by simp)
   ·rw [if_neg c3] at H
    have c3b0 : decide (i < j) = false := decide_eq_false c3
    clear c3
    by_cases c6 : i < (l0.length : Int)
    ·rw [if_pos c6] at H
     by_cases c5 : 0 ≤ i
     ·rw [if_pos c5] at H
      simp only [Option.some.injEq, Prod.mk.injEq] at H
      obtain ⟨rfl, rfl⟩ := H
      obtain ⟨ad, e, hx0, hx1, hx2, hx3, hx4, hx5, hx6, hx7⟩ := zp HR0.out i c5 c6
      cases e
      replace hx0 := (HB.out.cell (World.block_lt_of_cell? w _ hx0)).trans hx0
      replace hx1 := (HB.out.cell (World.block_lt_of_cell? w _ hx1)).trans hx1
      replace hx2 := (HB.out.cell (World.block_lt_of_cell? w _ hx2)).trans hx2
      replace hx3 := (HB.out.cell (World.block_lt_of_cell? w _ hx3)).trans hx3
      replace hx4 := (HB.out.cell (World.block_lt_of_cell? w _ hx4)).trans hx4
      replace hx5 := (HB.out.cell (World.block_lt_of_cell? w _ hx5)).trans hx5
      replace hx6 := (HB.out.cell (World.block_lt_of_cell? w _ hx6)).trans hx6
      replace hx7 := (HB.out.cell (World.block_lt_of_cell? w _ hx7)).trans hx7
      have c6b0 : decide (i < (l0.length : Int)) = true := decide_eq_true c6
      replace c5 := eq_true c5
      replace c6 := eq_true c6
      go_wp2_with (go_at_call 139; (refine (jk (qf l0 i) a1 _).mono ?_); rintro e w2 ⟨rfl, hb2⟩; replace HB := qb.mk (qB HB.out hb2); clear hb2)
      go_ret2
      exact ⟨by first | rfl | (simp; done), HB.out⟩
     ·rw [if_neg c5] at H
      exact absurd H (by simp)
    ·rw [if_neg c6] at H
     have c6b0 : decide (i < (l0.length : Int)) = false := decide_eq_false c6
     clear c6
     simp only [Option.some.injEq, Prod.mk.injEq] at H
     obtain ⟨rfl, rfl⟩ := H
     go_wp2
     go_ret2
     exact ⟨by first | rfl | (simp; done), HB.out⟩
theorem jc (x : vP) (b : ByteArray) (w : World) :
 Calls Tryd.prog 120 #[.agg #[.string x.f0, .string x.f1, .int .i64 x.f2], .string b] w
  fun e w' => e = .returned (.int .i64 (Lib.compareBytes x.f0.data.toList b.data.toList)) ∧ Below w.heap.size w w' := by
 go_enter Tryd.func120, Tryd.ntmps120
 go_wp2_with (go_at_call 121; refine (Qf _ _ _).mono ?_; rintro e w' ⟨rfl, rfl⟩)
 go_ret
 exact ⟨rfl, (Below.refl _ _).alloc (Nat.le_refl _) _⟩
set_option maxHeartbeats 4000000 in
set_option maxRecDepth 100000 in
theorem Vw (k : Nat) (A0 : Option Addr) (c0 : Nat) (l0 : List (vP)) (a1 : ByteArray) (r1 : Int) (r2 : Bool) (w : World) (hr0 : Kd.C zM w A0 l0.length l0) (hc0 : l0.length ≤ c0)
 (h : bs (l0.length : Int) (fun i => Lib.compareBytes (qj l0 i).f0.data.toList a1.data.toList) k 0 (l0.length : Int) = some (r1, r2)) :
 Calls Tryd.prog 119 #[.slice A0 l0.length c0, .string a1, .func (.func 120) #[] #[]] w fun e w' => e = .returned (.tuple #[.int .i64 r1, .bool r2]) ∧ Below w.heap.size w w' := by
 have HR0 := qb.mk hr0
 have HC0 := qb.mk hc0
 clear hr0 hc0
 have HB := qb.mk (Below.refl w.heap.size w)
 have H' := qb.mk h
 clear h
 go_enter Tryd.func119, Tryd.ntmps119
 go_wp2
 go_loopg [9, 10] k (fun kq v6 v7 w' => ∃ (i : Int) (j : Int), v6 = .int .i64 i ∧ v7 = .int .i64 j ∧ qb (bs (l0.length : Int) (fun i => Lib.compareBytes (qj l0 i).f0.data.toList a1.data.toList) kq i j = some (r1, r2)) ∧ qb (kq ≤ k) ∧ qb (Below w.heap.size w w'))
 case atStart => exact ⟨0, (l0.length : Int), (by first | rfl | (simp; done) | (simp [*]; done)), (by first | rfl | (simp; done) | (simp [*]; done)), H', ⟨Nat.le_refl _⟩, ⟨by repeat (first | (with_reducible first | exact HB.out | apply qd | apply qa | apply qc) | exact HB.out)⟩⟩
 case round =>
  clear H' HB
  obtain ⟨i, j, rfl, rfl, HA, HK1, HB⟩ := hrel
  cases gk with
  | zero => exact absurd HA.out (by simp [bs])
  | succ k1 =>
   have H := HA.out
   clear HA
   simp only [bs] at H
   by_cases c3 : i < j
   ·rw [if_pos c3] at H
    have c3b0 : decide (i < j) = true := decide_eq_true c3
    clear c3
    obtain ⟨q, hq⟩ : ∃ j_ : Int, (wrap64 ((IntKind.u64.wrap (wrap64 (i + j))) / 2)) = j_ := ⟨_, rfl⟩
    rw [hq] at H
    have hqw : (IntKind.i64.wrap ((IntKind.u64.wrap (wrap64 (i + j))) / 2)) = q := (qm _).trans hq
    by_cases c5 : 0 ≤ q
    ·rw [if_pos c5] at H
     by_cases c6 : q < (l0.length : Int)
     ·rw [if_pos c6] at H
      obtain ⟨ad, e, hx0, hx1, hx2⟩ := vY HR0.out q c5 c6
      cases e
      replace hx0 := (HB.out.cell (World.block_lt_of_cell? w _ hx0)).trans hx0
      replace hx1 := (HB.out.cell (World.block_lt_of_cell? w _ hx1)).trans hx1
      replace hx2 := (HB.out.cell (World.block_lt_of_cell? w _ hx2)).trans hx2
      have c5b0 : decide (0 ≤ q) = true := decide_eq_true c5
      have c6b0 : decide (q < (l0.length : Int)) = true := decide_eq_true c6
      replace c5 := eq_true c5
      replace c6 := eq_true c6
      by_cases c7 : Lib.compareBytes (qj l0 q).f0.data.toList a1.data.toList < 0
      ·rw [if_pos c7] at H
       have c7b0 : decide (Lib.compareBytes (qj l0 q).f0.data.toList a1.data.toList < 0) = true := decide_eq_true c7
       clear c7
       have H' := qb.mk H
       clear H
       go_wp2_with (go_at_call 120; (refine (jc (qj l0 q) a1 _).mono ?_); rintro e w2 ⟨rfl, hb2⟩; replace HB := qb.mk (qB HB.out hb2); clear hb2)
       go_roundg k1
       case measure => have := HK1.out; omega
       case rel => exact ⟨(wrap64 (q + 1)), j, (by first | rfl | (simp; done) | (simp [*]; done)), (by first | rfl | (simp; done) | (simp [*]; done)), H', ⟨by have := HK1.out; omega⟩, ⟨HB.out⟩⟩
      ·rw [if_neg c7] at H
       have c7b0 : decide (Lib.compareBytes (qj l0 q).f0.data.toList a1.data.toList < 0) = false := decide_eq_false c7
       clear c7
       have H' := qb.mk H
       clear H
       go_wp2_with (go_at_call 120; (refine (jc (qj l0 q) a1 _).mono ?_); rintro e w2 ⟨rfl, hb2⟩; replace HB := qb.mk (qB HB.out hb2); clear hb2)
       go_roundg k1
       case measure => have := HK1.out; omega
       case rel => exact ⟨i, q, (by first | rfl | (simp; done) | (simp [*]; done)), (by first | rfl | (simp; done) | (simp only [← hq] <;> (first | rfl | simp)) | (simp [*]; done)), H', ⟨by have := HK1.out; omega⟩, ⟨HB.out⟩⟩
     ·rw [if_neg c6] at H
      exact absurd H (by simp)
    ·rw [if_neg c5] at H
     exact absurd H (by simp)
   ·rw [if_neg c3] at H
    have c3b0 : decide (i < j) = false := decide_eq_false c3
    clear c3
    by_cases c6 : i < (l0.length : Int)
    ·rw [if_pos c6] at H
     by_cases c5 : 0 ≤ i
     ·rw [if_pos c5] at H
      simp only [Option.some.injEq, Prod.mk.injEq] at H
      obtain ⟨rfl, rfl⟩ := H
      obtain ⟨ad, e, hx0, hx1, hx2⟩ := vY HR0.out i c5 c6
      cases e
      replace hx0 := (HB.out.cell (World.block_lt_of_cell? w _ hx0)).trans hx0
      replace hx1 := (HB.out.cell (World.block_lt_of_cell? w _ hx1)).trans hx1
      replace hx2 := (HB.out.cell (World.block_lt_of_cell? w _ hx2)).trans hx2
      have c6b0 : decide (i < (l0.length : Int)) = true := decide_eq_true c6
      replace c5 := eq_true c5
      replace c6 := eq_true c6
      go_wp2_with (go_at_call 120; (refine (jc (qj l0 i) a1 _).mono ?_); rintro e w2 ⟨rfl, hb2⟩; replace HB := qb.mk (qB HB.out hb2); clear hb2)
      go_ret2
      exact ⟨by first | rfl | (simp; done), HB.out⟩
     ·rw [if_neg c5] at H
      exact absurd H (by simp)
    ·rw [if_neg c6] at H
     have c6b0 : decide (i < (l0.length : Int)) = false := decide_eq_false c6
     clear c6
     simp only [Option.some.injEq, Prod.mk.injEq] at H
     obtain ⟨rfl, rfl⟩ := H
     go_wp2
     go_ret2
     exact ⟨by first | rfl | (simp; done), HB.out⟩
end Go.Proofs.YtalpmbeddldfoaaDoor.PA
