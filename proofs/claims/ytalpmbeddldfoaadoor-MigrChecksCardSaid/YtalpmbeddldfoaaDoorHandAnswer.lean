/- answer.Check walked: numbers within their bounds, then the text. -/
import Derived.Test.YtalpmbeddldfoaaDoorHandKey
import Derived.Test.YtalpmbeddldfoaaDoorHandD
set_option linter.unusedVariables false
namespace Go.Proofs.YtalpmbeddldfoaaDoor.PA
open Go.RowKit Go.IntWalk Go.Proofs.YtalpmbeddldfoaaDoorW.PrintWords Go.Proofs.YtalpmbeddldfoaaDoor.Hand
theorem Zc (x l h : Int) (h1 : l ≤ x) (h2 : x ≤ h) (W : World) : Calls Tryd.prog 116 #[.int .i64 x, .int .i64 l, .int .i64 h] W fun e w' => e = .returned (.bool true) ∧ W = w' := by
 have c1 : decide (l ≤ x) = true := decide_eq_true h1
 have c2 : decide (x ≤ h) = true := decide_eq_true h2
 clear h1 h2
 go_enter Tryd.func116, Tryd.ntmps116
 go_wp2
 go_ret
 exact ⟨rfl, rfl⟩
def numB (a b c f : Int) : Bool := decide (1 ≤ a ∧ a ≤ 8 ∧ 1 ≤ b ∧ b ≤ 4294967296 ∧ 0 ≤ c ∧ c ≤ 17 ∧ 0 ≤ f ∧ f ≤ 4294967296)
def jR (a b c : Int) (e : ByteArray) (f : Int) : Int := if numB a b c f = true then (if jK e = true then 0 else 7) else 6
set_option maxHeartbeats 2000000 in
theorem ans_no0 (a b c : Int) (d : Bool) (e : ByteArray) (f : Int)  (c0 : ¬ 1 ≤ a) (w : World) :
 Calls Tryd.prog 83 #[.agg #[.int .i64 a, .int .i64 b, .int .i64 c, .bool d, .string e, .int .i64 f]] w fun r w' => r = .returned (.int .i64 6) ∧ Below w.heap.size w w' := by
 have e0 : decide (1 ≤ a) = false := decide_eq_false c0
 clear c0
 have HB := (Below.refl w.heap.size w).alloc (Nat.le_refl _) (.cells #[.int .i64 a, .int .i64 b, .int .i64 c, .bool d, .string e, .int .i64 f] 72)
 go_enter Tryd.func83, Tryd.ntmps83
 go_wp2
 go_ret
 exact ⟨rfl, HB⟩
set_option maxHeartbeats 2000000 in
theorem ans_no1 (a b c : Int) (d : Bool) (e : ByteArray) (f : Int) (c0 : 1 ≤ a) (c1 : ¬ a ≤ 8) (w : World) :
 Calls Tryd.prog 83 #[.agg #[.int .i64 a, .int .i64 b, .int .i64 c, .bool d, .string e, .int .i64 f]] w fun r w' => r = .returned (.int .i64 6) ∧ Below w.heap.size w w' := by
 have e0 : decide (1 ≤ a) = true := decide_eq_true c0
 have e1 : decide (a ≤ 8) = false := decide_eq_false c1
 clear c0 c1
 have HB := (Below.refl w.heap.size w).alloc (Nat.le_refl _) (.cells #[.int .i64 a, .int .i64 b, .int .i64 c, .bool d, .string e, .int .i64 f] 72)
 go_enter Tryd.func83, Tryd.ntmps83
 go_wp2
 go_ret
 exact ⟨rfl, HB⟩
set_option maxHeartbeats 2000000 in
theorem ans_no2 (a b c : Int) (d : Bool) (e : ByteArray) (f : Int) (c0 : 1 ≤ a) (c1 : a ≤ 8) (c2 : ¬ 1 ≤ b) (w : World) :
 Calls Tryd.prog 83 #[.agg #[.int .i64 a, .int .i64 b, .int .i64 c, .bool d, .string e, .int .i64 f]] w fun r w' => r = .returned (.int .i64 6) ∧ Below w.heap.size w w' := by
 have e0 : decide (1 ≤ a) = true := decide_eq_true c0
 have e1 : decide (a ≤ 8) = true := decide_eq_true c1
 have e2 : decide (1 ≤ b) = false := decide_eq_false c2
 clear c0 c1 c2
 have HB := (Below.refl w.heap.size w).alloc (Nat.le_refl _) (.cells #[.int .i64 a, .int .i64 b, .int .i64 c, .bool d, .string e, .int .i64 f] 72)
 go_enter Tryd.func83, Tryd.ntmps83
 go_wp2
 go_ret
 exact ⟨rfl, HB⟩
set_option maxHeartbeats 2000000 in
theorem ans_no3 (a b c : Int) (d : Bool) (e : ByteArray) (f : Int) (c0 : 1 ≤ a) (c1 : a ≤ 8) (c2 : 1 ≤ b) (c3 : ¬ b ≤ 4294967296) (w : World) :
 Calls Tryd.prog 83 #[.agg #[.int .i64 a, .int .i64 b, .int .i64 c, .bool d, .string e, .int .i64 f]] w fun r w' => r = .returned (.int .i64 6) ∧ Below w.heap.size w w' := by
 have e0 : decide (1 ≤ a) = true := decide_eq_true c0
 have e1 : decide (a ≤ 8) = true := decide_eq_true c1
 have e2 : decide (1 ≤ b) = true := decide_eq_true c2
 have e3 : decide (b ≤ 4294967296) = false := decide_eq_false c3
 clear c0 c1 c2 c3
 have HB := (Below.refl w.heap.size w).alloc (Nat.le_refl _) (.cells #[.int .i64 a, .int .i64 b, .int .i64 c, .bool d, .string e, .int .i64 f] 72)
 go_enter Tryd.func83, Tryd.ntmps83
 go_wp2
 go_ret
 exact ⟨rfl, HB⟩
set_option maxHeartbeats 2000000 in
theorem ans_no4 (a b c : Int) (d : Bool) (e : ByteArray) (f : Int) (c0 : 1 ≤ a) (c1 : a ≤ 8) (c2 : 1 ≤ b) (c3 : b ≤ 4294967296) (c4 : ¬ 0 ≤ c) (w : World) :
 Calls Tryd.prog 83 #[.agg #[.int .i64 a, .int .i64 b, .int .i64 c, .bool d, .string e, .int .i64 f]] w fun r w' => r = .returned (.int .i64 6) ∧ Below w.heap.size w w' := by
 have e0 : decide (1 ≤ a) = true := decide_eq_true c0
 have e1 : decide (a ≤ 8) = true := decide_eq_true c1
 have e2 : decide (1 ≤ b) = true := decide_eq_true c2
 have e3 : decide (b ≤ 4294967296) = true := decide_eq_true c3
 have e4 : decide (0 ≤ c) = false := decide_eq_false c4
 clear c0 c1 c2 c3 c4
 have HB := (Below.refl w.heap.size w).alloc (Nat.le_refl _) (.cells #[.int .i64 a, .int .i64 b, .int .i64 c, .bool d, .string e, .int .i64 f] 72)
 go_enter Tryd.func83, Tryd.ntmps83
 go_wp2
 go_ret
 exact ⟨rfl, HB⟩
set_option maxHeartbeats 2000000 in
theorem ans_no5 (a b c : Int) (d : Bool) (e : ByteArray) (f : Int) (c0 : 1 ≤ a) (c1 : a ≤ 8) (c2 : 1 ≤ b) (c3 : b ≤ 4294967296) (c4 : 0 ≤ c) (c5 : ¬ c ≤ 17) (w : World) :
 Calls Tryd.prog 83 #[.agg #[.int .i64 a, .int .i64 b, .int .i64 c, .bool d, .string e, .int .i64 f]] w fun r w' => r = .returned (.int .i64 6) ∧ Below w.heap.size w w' := by
 have e0 : decide (1 ≤ a) = true := decide_eq_true c0
 have e1 : decide (a ≤ 8) = true := decide_eq_true c1
 have e2 : decide (1 ≤ b) = true := decide_eq_true c2
 have e3 : decide (b ≤ 4294967296) = true := decide_eq_true c3
 have e4 : decide (0 ≤ c) = true := decide_eq_true c4
 have e5 : decide (c ≤ 17) = false := decide_eq_false c5
 clear c0 c1 c2 c3 c4 c5
 have HB := (Below.refl w.heap.size w).alloc (Nat.le_refl _) (.cells #[.int .i64 a, .int .i64 b, .int .i64 c, .bool d, .string e, .int .i64 f] 72)
 go_enter Tryd.func83, Tryd.ntmps83
 go_wp2
 go_ret
 exact ⟨rfl, HB⟩
set_option maxHeartbeats 2000000 in
theorem ans_no6 (a b c : Int) (d : Bool) (e : ByteArray) (f : Int) (c0 : 1 ≤ a) (c1 : a ≤ 8) (c2 : 1 ≤ b) (c3 : b ≤ 4294967296) (c4 : 0 ≤ c) (c5 : c ≤ 17) (c6 : ¬ 0 ≤ f) (w : World) :
 Calls Tryd.prog 83 #[.agg #[.int .i64 a, .int .i64 b, .int .i64 c, .bool d, .string e, .int .i64 f]] w fun r w' => r = .returned (.int .i64 6) ∧ Below w.heap.size w w' := by
 have e0 : decide (1 ≤ a) = true := decide_eq_true c0
 have e1 : decide (a ≤ 8) = true := decide_eq_true c1
 have e2 : decide (1 ≤ b) = true := decide_eq_true c2
 have e3 : decide (b ≤ 4294967296) = true := decide_eq_true c3
 have e4 : decide (0 ≤ c) = true := decide_eq_true c4
 have e5 : decide (c ≤ 17) = true := decide_eq_true c5
 have e6 : decide (0 ≤ f) = false := decide_eq_false c6
 clear c0 c1 c2 c3 c4 c5 c6
 have HB := (Below.refl w.heap.size w).alloc (Nat.le_refl _) (.cells #[.int .i64 a, .int .i64 b, .int .i64 c, .bool d, .string e, .int .i64 f] 72)
 go_enter Tryd.func83, Tryd.ntmps83
 go_wp2
 go_ret
 exact ⟨rfl, HB⟩
set_option maxHeartbeats 2000000 in
theorem ans_no7 (a b c : Int) (d : Bool) (e : ByteArray) (f : Int) (c0 : 1 ≤ a) (c1 : a ≤ 8) (c2 : 1 ≤ b) (c3 : b ≤ 4294967296) (c4 : 0 ≤ c) (c5 : c ≤ 17) (c6 : 0 ≤ f) (c7 : ¬ f ≤ 4294967296) (w : World) :
 Calls Tryd.prog 83 #[.agg #[.int .i64 a, .int .i64 b, .int .i64 c, .bool d, .string e, .int .i64 f]] w fun r w' => r = .returned (.int .i64 6) ∧ Below w.heap.size w w' := by
 have e0 : decide (1 ≤ a) = true := decide_eq_true c0
 have e1 : decide (a ≤ 8) = true := decide_eq_true c1
 have e2 : decide (1 ≤ b) = true := decide_eq_true c2
 have e3 : decide (b ≤ 4294967296) = true := decide_eq_true c3
 have e4 : decide (0 ≤ c) = true := decide_eq_true c4
 have e5 : decide (c ≤ 17) = true := decide_eq_true c5
 have e6 : decide (0 ≤ f) = true := decide_eq_true c6
 have e7 : decide (f ≤ 4294967296) = false := decide_eq_false c7
 clear c0 c1 c2 c3 c4 c5 c6 c7
 have HB := (Below.refl w.heap.size w).alloc (Nat.le_refl _) (.cells #[.int .i64 a, .int .i64 b, .int .i64 c, .bool d, .string e, .int .i64 f] 72)
 go_enter Tryd.func83, Tryd.ntmps83
 go_wp2
 go_ret
 exact ⟨rfl, HB⟩
set_option maxHeartbeats 2000000 in
theorem ans_false (a b c : Int) (d : Bool) (e : ByteArray) (f : Int) (c0 : 1 ≤ a) (c1 : a ≤ 8) (c2 : 1 ≤ b) (c3 : b ≤ 4294967296) (c4 : 0 ≤ c) (c5 : c ≤ 17) (c6 : 0 ≤ f) (c7 : f ≤ 4294967296) (hs : e.size ≤ 1073741824) (w : World) (hT : Qp w) (hv : jK e = false) :
 Calls Tryd.prog 83 #[.agg #[.int .i64 a, .int .i64 b, .int .i64 c, .bool d, .string e, .int .i64 f]] w fun r w' => r = .returned (.int .i64 7) ∧ Below w.heap.size w w' := by
 have HB := (Below.refl w.heap.size w).alloc (Nat.le_refl _) (.cells #[.int .i64 a, .int .i64 b, .int .i64 c, .bool d, .string e, .int .i64 f] 72)
 have cV := VT e hs (w.alloc (.cells #[.int .i64 a, .int .i64 b, .int .i64 c, .bool d, .string e, .int .i64 f] 72)) (hT.go HB)
 rw [hv] at cV
 clear hv hT
 go_enter Tryd.func83, Tryd.ntmps83
 go_wp2_with (first | (go_at_call 116; refine (Zc _ _ _ (by omega) (by omega) _).mono ?_; rintro e W' ⟨rfl, rfl⟩) | (go_at_call 23; refine cV.mono ?_; rintro e W' ⟨rfl, hb⟩))
 go_ret
 exact ⟨rfl, HB.trans (hb.mono HB.size)⟩
set_option maxHeartbeats 2000000 in
theorem ans_true (a b c : Int) (d : Bool) (e : ByteArray) (f : Int) (c0 : 1 ≤ a) (c1 : a ≤ 8) (c2 : 1 ≤ b) (c3 : b ≤ 4294967296) (c4 : 0 ≤ c) (c5 : c ≤ 17) (c6 : 0 ≤ f) (c7 : f ≤ 4294967296) (hs : e.size ≤ 1073741824) (w : World) (hT : Qp w) (hv : jK e = true) :
 Calls Tryd.prog 83 #[.agg #[.int .i64 a, .int .i64 b, .int .i64 c, .bool d, .string e, .int .i64 f]] w fun r w' => r = .returned (.int .i64 0) ∧ Below w.heap.size w w' := by
 have HB := (Below.refl w.heap.size w).alloc (Nat.le_refl _) (.cells #[.int .i64 a, .int .i64 b, .int .i64 c, .bool d, .string e, .int .i64 f] 72)
 have cV := VT e hs (w.alloc (.cells #[.int .i64 a, .int .i64 b, .int .i64 c, .bool d, .string e, .int .i64 f] 72)) (hT.go HB)
 rw [hv] at cV
 clear hv hT
 go_enter Tryd.func83, Tryd.ntmps83
 go_wp2_with (first | (go_at_call 116; refine (Zc _ _ _ (by omega) (by omega) _).mono ?_; rintro e W' ⟨rfl, rfl⟩) | (go_at_call 23; refine cV.mono ?_; rintro e W' ⟨rfl, hb⟩))
 go_ret
 exact ⟨rfl, HB.trans (hb.mono HB.size)⟩
theorem ans_walk (a b c : Int) (d : Bool) (e : ByteArray) (f : Int) (hs : numB a b c f = true → e.size ≤ 1073741824) (w : World) (hT : Qp w) :
 Calls Tryd.prog 83 #[.agg #[.int .i64 a, .int .i64 b, .int .i64 c, .bool d, .string e, .int .i64 f]] w fun r w' => r = .returned (.int .i64 (jR a b c e f)) ∧ Below w.heap.size w w' := by
 have hno : ∀ (_ : ¬ (1 ≤ a ∧ a ≤ 8 ∧ 1 ≤ b ∧ b ≤ 4294967296 ∧ 0 ≤ c ∧ c ≤ 17 ∧ 0 ≤ f ∧ f ≤ 4294967296)), jR a b c e f = 6 := fun h => by unfold jR numB; rw [decide_eq_false h]; rfl
 by_cases c0 : 1 ≤ a
 ·by_cases c1 : a ≤ 8
  ·by_cases c2 : 1 ≤ b
   ·by_cases c3 : b ≤ 4294967296
    ·by_cases c4 : 0 ≤ c
     ·by_cases c5 : c ≤ 17
      ·by_cases c6 : 0 ≤ f
       ·by_cases c7 : f ≤ 4294967296
        ·have hy : numB a b c f = true := decide_eq_true ⟨c0, c1, c2, c3, c4, c5, c6, c7⟩
         cases hv : jK e
         ·rw [show jR a b c e f = 7 by unfold jR; rw [hy, hv]; rfl]
          exact ans_false a b c d e f c0 c1 c2 c3 c4 c5 c6 c7 (hs hy) w hT hv
         ·rw [show jR a b c e f = 0 by unfold jR; rw [hy, hv]; rfl]
          exact ans_true a b c d e f c0 c1 c2 c3 c4 c5 c6 c7 (hs hy) w hT hv
        ·rw [hno (fun h => c7 (by omega))]
         exact ans_no7 a b c d e f c0 c1 c2 c3 c4 c5 c6 c7 w
       ·rw [hno (fun h => c6 (by omega))]
        exact ans_no6 a b c d e f c0 c1 c2 c3 c4 c5 c6 w
      ·rw [hno (fun h => c5 (by omega))]
       exact ans_no5 a b c d e f c0 c1 c2 c3 c4 c5 w
     ·rw [hno (fun h => c4 (by omega))]
      exact ans_no4 a b c d e f c0 c1 c2 c3 c4 w
    ·rw [hno (fun h => c3 (by omega))]
     exact ans_no3 a b c d e f c0 c1 c2 c3 w
   ·rw [hno (fun h => c2 (by omega))]
    exact ans_no2 a b c d e f c0 c1 c2 w
  ·rw [hno (fun h => c1 (by omega))]
   exact ans_no1 a b c d e f c0 c1 w
 ·rw [hno (fun h => c0 (by omega))]
  exact ans_no0 a b c d e f c0 w
end Go.Proofs.YtalpmbeddldfoaaDoor.PA
