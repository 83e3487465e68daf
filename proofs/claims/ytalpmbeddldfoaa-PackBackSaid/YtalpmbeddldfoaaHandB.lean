/- The contracts of cmp.Compare at int, the closures handed to slices.BinarySearchFunc, and that search itself. -/
import Derived.Test.YtalpmbeddldfoaaF0
namespace Go.Proofs.Ytalpmbeddldfoaa.PA
open Go.RowKit Go.Proofs.Ytalpmbeddldfoaa.Hand Go.Proofs.YtalpmbeddldfoaaW.PrintWords Go.Proofs.YtalpmbeddldfoaaW.PrintLast Go.Proofs.YtalpmbeddldfoaaW.PrintMore
set_option linter.unusedVariables false
set_option linter.unusedSimpArgs false

theorem isNaN_calls (a : Int) (w : World) : Calls Try.prog 134 #[.int .i64 a] w fun e w' => e = .returned (.bool false) ∧ w = w' := by
  go_enter Try.func134, Try.ntmps134
  go_wp2
  go_ret
  simp

def cmpI (a b : Int) : Int := if a < b then -1 else if b < a then 1 else 0

theorem compare_calls (a b : Int) (w : World) : Calls Try.prog 117 #[.int .i64 a, .int .i64 b] w fun e w' => e = .returned (.int .i64 (cmpI a b)) ∧ w = w' := by
  unfold cmpI
  by_cases h : a < b
  · have h1 : ¬ b < a := by omega
    rw [if_pos h]
    go_enter Try.func117, Try.ntmps117
    go_wp2_with (go_at_call 134; refine (isNaN_calls _ _).mono ?_; rintro e w' ⟨rfl, rfl⟩)
    go_ret
    simp
  · rw [if_neg h]
    by_cases h1 : b < a
    · rw [if_pos h1]
      go_enter Try.func117, Try.ntmps117
      go_wp2_with (go_at_call 134; refine (isNaN_calls _ _).mono ?_; rintro e w' ⟨rfl, rfl⟩)
      go_ret
      simp
    · rw [if_neg h1]
      go_enter Try.func117, Try.ntmps117
      go_wp2_with (go_at_call 134; refine (isNaN_calls _ _).mono ?_; rintro e w' ⟨rfl, rfl⟩)
      go_ret
      simp

/-- The search of slices.BinarySearchFunc: c: what the comparison says of element i. -/
def bs (n : Int) (c : Int → Int) : Nat → Int → Int → Option (Int × Bool)
  | 0, _, _ => none
  | k + 1, i, j =>
    if i < j then
      (if 0 ≤ (wrap64 ((IntKind.u64.wrap (wrap64 (i + j))) / 2)) then
        (if (wrap64 ((IntKind.u64.wrap (wrap64 (i + j))) / 2)) < n then
          (if c (wrap64 ((IntKind.u64.wrap (wrap64 (i + j))) / 2)) < 0 then bs n c k (wrap64 ((wrap64 ((IntKind.u64.wrap (wrap64 (i + j))) / 2)) + 1)) j
           else bs n c k i (wrap64 ((IntKind.u64.wrap (wrap64 (i + j))) / 2))) else none) else none)
    else (if i < n then (if 0 ≤ i then some (i, (c i == 0)) else none) else some (i, false))


theorem cmpI_neg (a b : Int) : (cmpI a b < 0) = (a < b) := by
  unfold cmpI
  apply propext
  split
  · simp [*]
  · split <;> simp [*]
theorem cmpI_zero (a b : Int) : (cmpI a b == 0) = (a == b) := by
  unfold cmpI
  rw [Bool.eq_iff_iff]
  simp only [beq_iff_eq]
  split
  · constructor <;> intro h <;> omega
  · split
    · constructor <;> intro h <;> omega
    · constructor <;> intro h <;> omega
theorem compareBytes_neg : ∀ a b : List UInt8, (Lib.compareBytes a b < 0) = (Op.bytesLess a b = true)
  | [], [] => by simp [Lib.compareBytes, Op.bytesLess]
  | [], _ :: _ => by simp [Lib.compareBytes, Op.bytesLess]
  | _ :: _, [] => by simp [Lib.compareBytes, Op.bytesLess]
  | x :: xs, y :: ys => by
    have ih := compareBytes_neg xs ys
    simp only [Lib.compareBytes, Op.bytesLess]
    by_cases h : x < y
    · simp [h]
    · by_cases e : x = y
      · subst e
        simp [h, ih]
      · have h1 : y < x := by
          rw [UInt8.lt_iff_toNat_lt] at h ⊢
          have : x.toNat ≠ y.toNat := fun q => e (UInt8.toNat_inj.mp q)
          omega
        simp [h, h1, e]
theorem compareBytes_zero : ∀ a b : List UInt8, (Lib.compareBytes a b == 0) = (a == b)
  | [], [] => by simp [Lib.compareBytes]
  | [], _ :: _ => by simp [Lib.compareBytes]
  | _ :: _, [] => by simp [Lib.compareBytes]
  | x :: xs, y :: ys => by
    have ih := compareBytes_zero xs ys
    simp only [Lib.compareBytes]
    by_cases h : x < y
    · have e : ¬ x = y := by
        rintro rfl
        rw [UInt8.lt_iff_toNat_lt] at h
        omega
      simp [h, e]
    · by_cases e : x = y
      · subst e
        simp [h, ih]
      · have h1 : y < x := by
          rw [UInt8.lt_iff_toNat_lt] at h ⊢
          have : x.toNat ≠ y.toNat := fun q => e (UInt8.toNat_inj.mp q)
          omega
        simp [h, h1, e]

theorem cmpstr_run (a b : ByteArray) (w : World) : (callFunc 143 #[.string a, .string b]).run Try.prog w = .ok (.value (.int .i64 (Lib.compareBytes a.data.toList b.data.toList))) w := by
  rw [run_callFunc_extern Try.func143 (by kernel_rfl) (by kernel_rfl) (by kernel_rfl) (e := Extern.BytealgCompare.compare) (by kernel_rfl), Lib.run_compareString]
  rfl
theorem compareString_calls (a b : ByteArray) (w : World) : Calls Try.prog 138 #[.string a, .string b] w fun e w' => e = .returned (.int .i64 (Lib.compareBytes a.data.toList b.data.toList)) ∧ w = w' := by
  have hx := cmpstr_run a b
  go_enter Try.func138, Try.ntmps138
  go_wp2_with (simp only [hx])
  go_ret
  exact ⟨rfl, rfl⟩
theorem stringsCompare_calls (a b : ByteArray) (w : World) : Calls Try.prog 124 #[.string a, .string b] w fun e w' => e = .returned (.int .i64 (Lib.compareBytes a.data.toList b.data.toList)) ∧ w = w' := by
  go_enter Try.func124, Try.ntmps124
  go_wp2_with (go_at_call 138; refine (compareString_calls _ _ _).mono ?_; rintro e w' ⟨rfl, rfl⟩)
  go_ret
  exact ⟨rfl, rfl⟩
def cmpS (a b : ByteArray) : Int := if Op.bytesLess a.toList b.toList = true then -1 else if Op.bytesLess b.toList a.toList = true then 1 else 0

theorem sess_place1_calls (x : S111) (b : Int) (w : World) :
    Calls Try.prog 116 #[.agg #[.int .i64 x.f0, .int .i64 x.f1, .int .i64 x.f2.f0, .int .i64 x.f2.f1, .int .i64 x.f2.f2, .bool x.f2.f3, .string x.f2.f4, .int .i64 x.f2.f5], .int .i64 b] w
      fun e w' => e = .returned (.int .i64 (cmpI x.f0 b)) ∧ Below w.heap.size w w' := by
  go_enter Try.func116, Try.ntmps116
  go_wp2_with (go_at_call 117; refine (compare_calls _ _ _).mono ?_; rintro e w' ⟨rfl, rfl⟩)
  go_ret
  exact ⟨rfl, (Below.refl _ _).alloc (Nat.le_refl _) _⟩

set_option maxHeartbeats 4000000 in
set_option maxRecDepth 100000 in
theorem bsf_sess_place (k : Nat) (A0 : Option Addr) (c0 : Nat) (l0 : List (S111)) (a1 : Int) (r1 : Int) (r2 : Bool) (w : World) (hr0 : Kd.C k111 w A0 l0.length l0) (hc0 : l0.length ≤ c0)
    (h : bs (l0.length : Int) (fun i => cmpI (rd_T111 l0 i).f0 a1) k 0 (l0.length : Int) = some (r1, r2)) :
    Calls Try.prog 115 #[.slice A0 l0.length c0, .int .i64 a1, .func (.func 116) #[] #[]] w fun e w' => e = .returned (.tuple #[.int .i64 r1, .bool r2]) ∧ Below w.heap.size w w' := by
  have HR0 := Aside0.mk hr0
  have HC0 := Aside0.mk hc0
  clear hr0 hc0
  have HB := Aside0.mk (Below.refl w.heap.size w)
  have H' := Aside0.mk h
  clear h
  go_enter Try.func115, Try.ntmps115
  go_wp2
  go_loopg [9, 10] k (fun kq v6 v7 w' => ∃ (i : Int) (j : Int), v6 = .int .i64 i ∧ v7 = .int .i64 j ∧ Aside0 (bs (l0.length : Int) (fun i => cmpI (rd_T111 l0 i).f0 a1) kq i j = some (r1, r2)) ∧ Aside0 (kq ≤ k) ∧ Aside0 (Below w.heap.size w w'))
  case atStart => exact ⟨0, (l0.length : Int), (by first | rfl | (simp; done) | (simp [*]; done)), (by first | rfl | (simp; done) | (simp [*]; done)), H', ⟨Nat.le_refl _⟩, ⟨by repeat (first | (with_reducible first | exact HB.out | apply below_alloc | apply pw_below_drewN | apply below_drew1) | exact HB.out)⟩⟩
  case round =>
    clear H' HB
    obtain ⟨i, j, rfl, rfl, HA, HK1, HB⟩ := hrel
    cases gk with
    | zero => exact absurd HA.out (by simp [bs])
    | succ k1 =>
      have H := HA.out
      clear HA
      simp only [bs] at H
      by_cases c3 : i < j
      · rw [if_pos c3] at H
        have c3b0 : decide (i < j) = true := decide_eq_true c3
        clear c3
        obtain ⟨q, hq⟩ : ∃ j_ : Int, (wrap64 ((IntKind.u64.wrap (wrap64 (i + j))) / 2)) = j_ := ⟨_, rfl⟩
        rw [hq] at H
        have hqw : (IntKind.i64.wrap ((IntKind.u64.wrap (wrap64 (i + j))) / 2)) = q := (i64_w _).trans hq
        by_cases c5 : 0 ≤ q
        · rw [if_pos c5] at H
          by_cases c6 : q < (l0.length : Int)
          · rw [if_pos c6] at H
            obtain ⟨ad, e, hx0, hx1, hx2, hx3, hx4, hx5, hx6, hx7⟩ := at_T111 HR0.out q c5 c6
            cases e
            replace hx0 := (HB.out.cell (World.block_lt_of_cell? w _ hx0)).trans hx0
            replace hx1 := (HB.out.cell (World.block_lt_of_cell? w _ hx1)).trans hx1
            replace hx2 := (HB.out.cell (World.block_lt_of_cell? w _ hx2)).trans hx2
            replace hx3 := (HB.out.cell (World.block_lt_of_cell? w _ hx3)).trans hx3
            replace hx4 := (HB.out.cell (World.block_lt_of_cell? w _ hx4)).trans hx4
            replace hx5 := (HB.out.cell (World.block_lt_of_cell? w _ hx5)).trans hx5
            replace hx6 := (HB.out.cell (World.block_lt_of_cell? w _ hx6)).trans hx6
            replace hx7 := (HB.out.cell (World.block_lt_of_cell? w _ hx7)).trans hx7
            have c5b0 : decide (0 ≤ q) = true := decide_eq_true c5
            have c6b0 : decide (q < (l0.length : Int)) = true := decide_eq_true c6
            replace c5 := eq_true c5
            replace c6 := eq_true c6
            by_cases c7 : cmpI (rd_T111 l0 q).f0 a1 < 0
            · rw [if_pos c7] at H
              have c7b0 : decide (cmpI (rd_T111 l0 q).f0 a1 < 0) = true := decide_eq_true c7
              clear c7
              have H' := Aside0.mk H
              clear H
              go_wp2_with (go_at_call 116; (refine (sess_place1_calls (rd_T111 l0 q) a1 _).mono ?_); rintro e w2 ⟨rfl, hb2⟩; replace HB := Aside0.mk (below_step HB.out hb2); clear hb2)
              go_roundg k1
              case measure => have := HK1.out; omega
              case rel => exact ⟨(wrap64 (q + 1)), j, (by first | rfl | (simp; done) | (simp [*]; done)), (by first | rfl | (simp; done) | (simp [*]; done)), H', ⟨by have := HK1.out; omega⟩, ⟨HB.out⟩⟩
            · rw [if_neg c7] at H
              have c7b0 : decide (cmpI (rd_T111 l0 q).f0 a1 < 0) = false := decide_eq_false c7
              clear c7
              have H' := Aside0.mk H
              clear H
              go_wp2_with (go_at_call 116; (refine (sess_place1_calls (rd_T111 l0 q) a1 _).mono ?_); rintro e w2 ⟨rfl, hb2⟩; replace HB := Aside0.mk (below_step HB.out hb2); clear hb2)
              go_roundg k1
              case measure => have := HK1.out; omega
              case rel => exact ⟨i, q, (by first | rfl | (simp; done) | (simp [*]; done)), (by first | rfl | (simp; done) | (simp only [← hq] <;> (first | rfl | simp)) | (simp [*]; done)), H', ⟨by have := HK1.out; omega⟩, ⟨HB.out⟩⟩
          · rw [if_neg c6] at H
            exact absurd H (by simp)
        · rw [if_neg c5] at H
          exact absurd H (by simp)
      · rw [if_neg c3] at H
        have c3b0 : decide (i < j) = false := decide_eq_false c3
        clear c3
        by_cases c6 : i < (l0.length : Int)
        · rw [if_pos c6] at H
          by_cases c5 : 0 ≤ i
          · rw [if_pos c5] at H
            simp only [Option.some.injEq, Prod.mk.injEq] at H
            obtain ⟨rfl, rfl⟩ := H
            obtain ⟨ad, e, hx0, hx1, hx2, hx3, hx4, hx5, hx6, hx7⟩ := at_T111 HR0.out i c5 c6
            cases e
            replace hx0 := (HB.out.cell (World.block_lt_of_cell? w _ hx0)).trans hx0
            replace hx1 := (HB.out.cell (World.block_lt_of_cell? w _ hx1)).trans hx1
            replace hx2 := (HB.out.cell (World.block_lt_of_cell? w _ hx2)).trans hx2
            replace hx3 := (HB.out.cell (World.block_lt_of_cell? w _ hx3)).trans hx3
            replace hx4 := (HB.out.cell (World.block_lt_of_cell? w _ hx4)).trans hx4
            replace hx5 := (HB.out.cell (World.block_lt_of_cell? w _ hx5)).trans hx5
            replace hx6 := (HB.out.cell (World.block_lt_of_cell? w _ hx6)).trans hx6
            replace hx7 := (HB.out.cell (World.block_lt_of_cell? w _ hx7)).trans hx7
            have c6b0 : decide (i < (l0.length : Int)) = true := decide_eq_true c6
            replace c5 := eq_true c5
            replace c6 := eq_true c6
            go_wp2_with (go_at_call 116; (refine (sess_place1_calls (rd_T111 l0 i) a1 _).mono ?_); rintro e w2 ⟨rfl, hb2⟩; replace HB := Aside0.mk (below_step HB.out hb2); clear hb2)
            go_ret2
            exact ⟨by first | rfl | (simp; done), HB.out⟩
          · rw [if_neg c5] at H
            exact absurd H (by simp)
        · rw [if_neg c6] at H
          have c6b0 : decide (i < (l0.length : Int)) = false := decide_eq_false c6
          clear c6
          simp only [Option.some.injEq, Prod.mk.injEq] at H
          obtain ⟨rfl, rfl⟩ := H
          go_wp2
          go_ret2
          exact ⟨by first | rfl | (simp; done), HB.out⟩


theorem entry_place1_calls (x : S91) (b : Int) (w : World) :
    Calls Try.prog 133 #[.agg #[.int .i64 x.f0, .int .i64 x.f1.f0, .int .i64 x.f1.f1, .int .i64 x.f2.f0, .int .i64 x.f2.f1, .int .i64 x.f2.f2, .string x.f2.f3, .string x.f2.f4, .string x.f2.f5, .int .i64 x.f2.f6], .int .i64 b] w
      fun e w' => e = .returned (.int .i64 (cmpI x.f0 b)) ∧ Below w.heap.size w w' := by
  go_enter Try.func133, Try.ntmps133
  go_wp2_with (go_at_call 117; refine (compare_calls _ _ _).mono ?_; rintro e w' ⟨rfl, rfl⟩)
  go_ret
  exact ⟨rfl, (Below.refl _ _).alloc (Nat.le_refl _) _⟩

set_option maxHeartbeats 4000000 in
set_option maxRecDepth 100000 in
theorem bsf_entry_place (k : Nat) (A0 : Option Addr) (c0 : Nat) (l0 : List (S91)) (a1 : Int) (r1 : Int) (r2 : Bool) (w : World) (hr0 : Kd.C k91 w A0 l0.length l0) (hc0 : l0.length ≤ c0)
    (h : bs (l0.length : Int) (fun i => cmpI (rd_T91 l0 i).f0 a1) k 0 (l0.length : Int) = some (r1, r2)) :
    Calls Try.prog 132 #[.slice A0 l0.length c0, .int .i64 a1, .func (.func 133) #[] #[]] w fun e w' => e = .returned (.tuple #[.int .i64 r1, .bool r2]) ∧ Below w.heap.size w w' := by
  have HR0 := Aside0.mk hr0
  have HC0 := Aside0.mk hc0
  clear hr0 hc0
  have HB := Aside0.mk (Below.refl w.heap.size w)
  have H' := Aside0.mk h
  clear h
  go_enter Try.func132, Try.ntmps132
  go_wp2
  go_loopg [9, 10] k (fun kq v6 v7 w' => ∃ (i : Int) (j : Int), v6 = .int .i64 i ∧ v7 = .int .i64 j ∧ Aside0 (bs (l0.length : Int) (fun i => cmpI (rd_T91 l0 i).f0 a1) kq i j = some (r1, r2)) ∧ Aside0 (kq ≤ k) ∧ Aside0 (Below w.heap.size w w'))
  case atStart => exact ⟨0, (l0.length : Int), (by first | rfl | (simp; done) | (simp [*]; done)), (by first | rfl | (simp; done) | (simp [*]; done)), H', ⟨Nat.le_refl _⟩, ⟨by repeat (first | (with_reducible first | exact HB.out | apply below_alloc | apply pw_below_drewN | apply below_drew1) | exact HB.out)⟩⟩
  case round =>
    clear H' HB
    obtain ⟨i, j, rfl, rfl, HA, HK1, HB⟩ := hrel
    cases gk with
    | zero => exact absurd HA.out (by simp [bs])
    | succ k1 =>
      have H := HA.out
      clear HA
      simp only [bs] at H
      by_cases c3 : i < j
      · rw [if_pos c3] at H
        have c3b0 : decide (i < j) = true := decide_eq_true c3
        clear c3
        obtain ⟨q, hq⟩ : ∃ j_ : Int, (wrap64 ((IntKind.u64.wrap (wrap64 (i + j))) / 2)) = j_ := ⟨_, rfl⟩
        rw [hq] at H
        have hqw : (IntKind.i64.wrap ((IntKind.u64.wrap (wrap64 (i + j))) / 2)) = q := (i64_w _).trans hq
        by_cases c5 : 0 ≤ q
        · rw [if_pos c5] at H
          by_cases c6 : q < (l0.length : Int)
          · rw [if_pos c6] at H
            obtain ⟨ad, e, hx0, hx1, hx2, hx3, hx4, hx5, hx6, hx7, hx8, hx9⟩ := at_T91 HR0.out q c5 c6
            cases e
            replace hx0 := (HB.out.cell (World.block_lt_of_cell? w _ hx0)).trans hx0
            replace hx1 := (HB.out.cell (World.block_lt_of_cell? w _ hx1)).trans hx1
            replace hx2 := (HB.out.cell (World.block_lt_of_cell? w _ hx2)).trans hx2
            replace hx3 := (HB.out.cell (World.block_lt_of_cell? w _ hx3)).trans hx3
            replace hx4 := (HB.out.cell (World.block_lt_of_cell? w _ hx4)).trans hx4
            replace hx5 := (HB.out.cell (World.block_lt_of_cell? w _ hx5)).trans hx5
            replace hx6 := (HB.out.cell (World.block_lt_of_cell? w _ hx6)).trans hx6
            replace hx7 := (HB.out.cell (World.block_lt_of_cell? w _ hx7)).trans hx7
            replace hx8 := (HB.out.cell (World.block_lt_of_cell? w _ hx8)).trans hx8
            replace hx9 := (HB.out.cell (World.block_lt_of_cell? w _ hx9)).trans hx9
            have c5b0 : decide (0 ≤ q) = true := decide_eq_true c5
            have c6b0 : decide (q < (l0.length : Int)) = true := decide_eq_true c6
            replace c5 := eq_true c5
            replace c6 := eq_true c6
            by_cases c7 : cmpI (rd_T91 l0 q).f0 a1 < 0
            · rw [if_pos c7] at H
              have c7b0 : decide (cmpI (rd_T91 l0 q).f0 a1 < 0) = true := decide_eq_true c7
              clear c7
              have H' := Aside0.mk H
              clear H
              go_wp2_with (go_at_call 133; (refine (entry_place1_calls (rd_T91 l0 q) a1 _).mono ?_); rintro e w2 ⟨rfl, hb2⟩; replace HB := Aside0.mk (below_step HB.out hb2); clear hb2)
              go_roundg k1
              case measure => have := HK1.out; omega
              case rel => exact ⟨(wrap64 (q + 1)), j, (by first | rfl | (simp; done) | (simp [*]; done)), (by first | rfl | (simp; done) | (simp [*]; done)), H', ⟨by have := HK1.out; omega⟩, ⟨HB.out⟩⟩
            · rw [if_neg c7] at H
              have c7b0 : decide (cmpI (rd_T91 l0 q).f0 a1 < 0) = false := decide_eq_false c7
              clear c7
              have H' := Aside0.mk H
              clear H
              go_wp2_with (go_at_call 133; (refine (entry_place1_calls (rd_T91 l0 q) a1 _).mono ?_); rintro e w2 ⟨rfl, hb2⟩; replace HB := Aside0.mk (below_step HB.out hb2); clear hb2)
              go_roundg k1
              case measure => have := HK1.out; omega
              case rel => exact ⟨i, q, (by first | rfl | (simp; done) | (simp [*]; done)), (by first | rfl | (simp; done) | (simp only [← hq] <;> (first | rfl | simp)) | (simp [*]; done)), H', ⟨by have := HK1.out; omega⟩, ⟨HB.out⟩⟩
          · rw [if_neg c6] at H
            exact absurd H (by simp)
        · rw [if_neg c5] at H
          exact absurd H (by simp)
      · rw [if_neg c3] at H
        have c3b0 : decide (i < j) = false := decide_eq_false c3
        clear c3
        by_cases c6 : i < (l0.length : Int)
        · rw [if_pos c6] at H
          by_cases c5 : 0 ≤ i
          · rw [if_pos c5] at H
            simp only [Option.some.injEq, Prod.mk.injEq] at H
            obtain ⟨rfl, rfl⟩ := H
            obtain ⟨ad, e, hx0, hx1, hx2, hx3, hx4, hx5, hx6, hx7, hx8, hx9⟩ := at_T91 HR0.out i c5 c6
            cases e
            replace hx0 := (HB.out.cell (World.block_lt_of_cell? w _ hx0)).trans hx0
            replace hx1 := (HB.out.cell (World.block_lt_of_cell? w _ hx1)).trans hx1
            replace hx2 := (HB.out.cell (World.block_lt_of_cell? w _ hx2)).trans hx2
            replace hx3 := (HB.out.cell (World.block_lt_of_cell? w _ hx3)).trans hx3
            replace hx4 := (HB.out.cell (World.block_lt_of_cell? w _ hx4)).trans hx4
            replace hx5 := (HB.out.cell (World.block_lt_of_cell? w _ hx5)).trans hx5
            replace hx6 := (HB.out.cell (World.block_lt_of_cell? w _ hx6)).trans hx6
            replace hx7 := (HB.out.cell (World.block_lt_of_cell? w _ hx7)).trans hx7
            replace hx8 := (HB.out.cell (World.block_lt_of_cell? w _ hx8)).trans hx8
            replace hx9 := (HB.out.cell (World.block_lt_of_cell? w _ hx9)).trans hx9
            have c6b0 : decide (i < (l0.length : Int)) = true := decide_eq_true c6
            replace c5 := eq_true c5
            replace c6 := eq_true c6
            go_wp2_with (go_at_call 133; (refine (entry_place1_calls (rd_T91 l0 i) a1 _).mono ?_); rintro e w2 ⟨rfl, hb2⟩; replace HB := Aside0.mk (below_step HB.out hb2); clear hb2)
            go_ret2
            exact ⟨by first | rfl | (simp; done), HB.out⟩
          · rw [if_neg c5] at H
            exact absurd H (by simp)
        · rw [if_neg c6] at H
          have c6b0 : decide (i < (l0.length : Int)) = false := decide_eq_false c6
          clear c6
          simp only [Option.some.injEq, Prod.mk.injEq] at H
          obtain ⟨rfl, rfl⟩ := H
          go_wp2
          go_ret2
          exact ⟨by first | rfl | (simp; done), HB.out⟩


theorem kvone_place1_calls (x : S78) (b : ByteArray) (w : World) :
    Calls Try.prog 123 #[.agg #[.string x.f0, .string x.f1, .int .i64 x.f2], .string b] w
      fun e w' => e = .returned (.int .i64 (Lib.compareBytes x.f0.data.toList b.data.toList)) ∧ Below w.heap.size w w' := by
  go_enter Try.func123, Try.ntmps123
  go_wp2_with (go_at_call 124; refine (stringsCompare_calls _ _ _).mono ?_; rintro e w' ⟨rfl, rfl⟩)
  go_ret
  exact ⟨rfl, (Below.refl _ _).alloc (Nat.le_refl _) _⟩

set_option maxHeartbeats 4000000 in
set_option maxRecDepth 100000 in
theorem bsf_kvone_place (k : Nat) (A0 : Option Addr) (c0 : Nat) (l0 : List (S78)) (a1 : ByteArray) (r1 : Int) (r2 : Bool) (w : World) (hr0 : Kd.C k78 w A0 l0.length l0) (hc0 : l0.length ≤ c0)
    (h : bs (l0.length : Int) (fun i => Lib.compareBytes (rd_T78 l0 i).f0.data.toList a1.data.toList) k 0 (l0.length : Int) = some (r1, r2)) :
    Calls Try.prog 122 #[.slice A0 l0.length c0, .string a1, .func (.func 123) #[] #[]] w fun e w' => e = .returned (.tuple #[.int .i64 r1, .bool r2]) ∧ Below w.heap.size w w' := by
  have HR0 := Aside0.mk hr0
  have HC0 := Aside0.mk hc0
  clear hr0 hc0
  have HB := Aside0.mk (Below.refl w.heap.size w)
  have H' := Aside0.mk h
  clear h
  go_enter Try.func122, Try.ntmps122
  go_wp2
  go_loopg [9, 10] k (fun kq v6 v7 w' => ∃ (i : Int) (j : Int), v6 = .int .i64 i ∧ v7 = .int .i64 j ∧ Aside0 (bs (l0.length : Int) (fun i => Lib.compareBytes (rd_T78 l0 i).f0.data.toList a1.data.toList) kq i j = some (r1, r2)) ∧ Aside0 (kq ≤ k) ∧ Aside0 (Below w.heap.size w w'))
  case atStart => exact ⟨0, (l0.length : Int), (by first | rfl | (simp; done) | (simp [*]; done)), (by first | rfl | (simp; done) | (simp [*]; done)), H', ⟨Nat.le_refl _⟩, ⟨by repeat (first | (with_reducible first | exact HB.out | apply below_alloc | apply pw_below_drewN | apply below_drew1) | exact HB.out)⟩⟩
  case round =>
    clear H' HB
    obtain ⟨i, j, rfl, rfl, HA, HK1, HB⟩ := hrel
    cases gk with
    | zero => exact absurd HA.out (by simp [bs])
    | succ k1 =>
      have H := HA.out
      clear HA
      simp only [bs] at H
      by_cases c3 : i < j
      · rw [if_pos c3] at H
        have c3b0 : decide (i < j) = true := decide_eq_true c3
        clear c3
        obtain ⟨q, hq⟩ : ∃ j_ : Int, (wrap64 ((IntKind.u64.wrap (wrap64 (i + j))) / 2)) = j_ := ⟨_, rfl⟩
        rw [hq] at H
        have hqw : (IntKind.i64.wrap ((IntKind.u64.wrap (wrap64 (i + j))) / 2)) = q := (i64_w _).trans hq
        by_cases c5 : 0 ≤ q
        · rw [if_pos c5] at H
          by_cases c6 : q < (l0.length : Int)
          · rw [if_pos c6] at H
            obtain ⟨ad, e, hx0, hx1, hx2⟩ := at_T78 HR0.out q c5 c6
            cases e
            replace hx0 := (HB.out.cell (World.block_lt_of_cell? w _ hx0)).trans hx0
            replace hx1 := (HB.out.cell (World.block_lt_of_cell? w _ hx1)).trans hx1
            replace hx2 := (HB.out.cell (World.block_lt_of_cell? w _ hx2)).trans hx2
            have c5b0 : decide (0 ≤ q) = true := decide_eq_true c5
            have c6b0 : decide (q < (l0.length : Int)) = true := decide_eq_true c6
            replace c5 := eq_true c5
            replace c6 := eq_true c6
            by_cases c7 : Lib.compareBytes (rd_T78 l0 q).f0.data.toList a1.data.toList < 0
            · rw [if_pos c7] at H
              have c7b0 : decide (Lib.compareBytes (rd_T78 l0 q).f0.data.toList a1.data.toList < 0) = true := decide_eq_true c7
              clear c7
              have H' := Aside0.mk H
              clear H
              go_wp2_with (go_at_call 123; (refine (kvone_place1_calls (rd_T78 l0 q) a1 _).mono ?_); rintro e w2 ⟨rfl, hb2⟩; replace HB := Aside0.mk (below_step HB.out hb2); clear hb2)
              go_roundg k1
              case measure => have := HK1.out; omega
              case rel => exact ⟨(wrap64 (q + 1)), j, (by first | rfl | (simp; done) | (simp [*]; done)), (by first | rfl | (simp; done) | (simp [*]; done)), H', ⟨by have := HK1.out; omega⟩, ⟨HB.out⟩⟩
            · rw [if_neg c7] at H
              have c7b0 : decide (Lib.compareBytes (rd_T78 l0 q).f0.data.toList a1.data.toList < 0) = false := decide_eq_false c7
              clear c7
              have H' := Aside0.mk H
              clear H
              go_wp2_with (go_at_call 123; (refine (kvone_place1_calls (rd_T78 l0 q) a1 _).mono ?_); rintro e w2 ⟨rfl, hb2⟩; replace HB := Aside0.mk (below_step HB.out hb2); clear hb2)
              go_roundg k1
              case measure => have := HK1.out; omega
              case rel => exact ⟨i, q, (by first | rfl | (simp; done) | (simp [*]; done)), (by first | rfl | (simp; done) | (simp only [← hq] <;> (first | rfl | simp)) | (simp [*]; done)), H', ⟨by have := HK1.out; omega⟩, ⟨HB.out⟩⟩
          · rw [if_neg c6] at H
            exact absurd H (by simp)
        · rw [if_neg c5] at H
          exact absurd H (by simp)
      · rw [if_neg c3] at H
        have c3b0 : decide (i < j) = false := decide_eq_false c3
        clear c3
        by_cases c6 : i < (l0.length : Int)
        · rw [if_pos c6] at H
          by_cases c5 : 0 ≤ i
          · rw [if_pos c5] at H
            simp only [Option.some.injEq, Prod.mk.injEq] at H
            obtain ⟨rfl, rfl⟩ := H
            obtain ⟨ad, e, hx0, hx1, hx2⟩ := at_T78 HR0.out i c5 c6
            cases e
            replace hx0 := (HB.out.cell (World.block_lt_of_cell? w _ hx0)).trans hx0
            replace hx1 := (HB.out.cell (World.block_lt_of_cell? w _ hx1)).trans hx1
            replace hx2 := (HB.out.cell (World.block_lt_of_cell? w _ hx2)).trans hx2
            have c6b0 : decide (i < (l0.length : Int)) = true := decide_eq_true c6
            replace c5 := eq_true c5
            replace c6 := eq_true c6
            go_wp2_with (go_at_call 123; (refine (kvone_place1_calls (rd_T78 l0 i) a1 _).mono ?_); rintro e w2 ⟨rfl, hb2⟩; replace HB := Aside0.mk (below_step HB.out hb2); clear hb2)
            go_ret2
            exact ⟨by first | rfl | (simp; done), HB.out⟩
          · rw [if_neg c5] at H
            exact absurd H (by simp)
        · rw [if_neg c6] at H
          have c6b0 : decide (i < (l0.length : Int)) = false := decide_eq_false c6
          clear c6
          simp only [Option.some.injEq, Prod.mk.injEq] at H
          obtain ⟨rfl, rfl⟩ := H
          go_wp2
          go_ret2
          exact ⟨by first | rfl | (simp; done), HB.out⟩

end Go.Proofs.Ytalpmbeddldfoaa.PA
