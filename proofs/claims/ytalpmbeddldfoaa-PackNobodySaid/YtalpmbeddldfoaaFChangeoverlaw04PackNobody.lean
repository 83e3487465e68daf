-- A text that a program wrote for this claim (print.py over stand-in bodies, tool/pr.sh).
import Derived.Test.YtalpmbeddldfoaaF0
import Derived.Test.YtalpmbeddldfoaaFChangeoverlaw04Awake
import Derived.Test.YtalpmbeddldfoaaFChangeoverlaw04Awake
import Derived.Test.YtalpmbeddldfoaaFPackReaderText
namespace Go.Proofs.Ytalpmbeddldfoaa.PA
open Go.RowKit Go.Proofs.Ytalpmbeddldfoaa.Hand Go.Proofs.YtalpmbeddldfoaaW.PrintWords Go.Proofs.YtalpmbeddldfoaaW.PrintLast Go.Proofs.YtalpmbeddldfoaaW.PrintMore
attribute [local go_sem] max2_int min2_int max_two min_two max_three min_three max_four min_four   -- for this text's walks alone
attribute [local go_sem high] str_leq str_gtr str_geq
set_option linter.unusedVariables false
set_option linter.unusedSimpArgs false

theorem nil_wNumber (n : Int) (w : World) : Calls Try.prog 38 #[.pointer none, .int .i64 n] w fun e w' => e = .returned (.tuple #[]) ∧ w = w' := by
  go_enter Try.func38, Try.ntmps38
  go_wp2
  go_end0
  exact ⟨rfl, rfl⟩
theorem nil_wRaw (v : Value) (w : World) : Calls Try.prog 41 #[.pointer none, v] w fun e w' => e = .returned (.tuple #[]) ∧ w = w' := by
  go_enter Try.func41, Try.ntmps41
  go_wp2
  go_end0
  exact ⟨rfl, rfl⟩
theorem nil_wBytes (w : World) : Calls Try.prog 42 #[.pointer none] w fun e w' => e = .returned (.slice none 0 0) ∧ w = w' := by
  go_enter Try.func42, Try.ntmps42
  go_wp2
  go_ret
  exact ⟨rfl, rfl⟩
theorem nil_wFlag (b : Bool) (w : World) : Calls Try.prog 40 #[.pointer none, .bool b] w fun e w' => e = .returned (.tuple #[]) ∧ w = w' := by
  cases b with
  | true =>
    go_enter Try.func40, Try.ntmps40
    go_wp2_with (go_at_call 38; ((with_reducible refine (nil_wNumber _ _).mono ?_)); rintro e w2 ⟨rfl, rfl⟩)
    go_end0
    exact ⟨rfl, rfl⟩
  | false =>
    go_enter Try.func40, Try.ntmps40
    go_wp2_with (go_at_call 38; ((with_reducible refine (nil_wNumber _ _).mono ?_)); rintro e w2 ⟨rfl, rfl⟩)
    go_end0
    exact ⟨rfl, rfl⟩
theorem nil_wText (s : ByteArray) (w : World) : Calls Try.prog 39 #[.pointer none, .string s] w fun e w' => e = .returned (.tuple #[]) ∧ Below w.heap.size w w' := by
  have HB := Aside0.mk (bytes_below (Below.refl w.heap.size w) (Nat.le_refl _) 5 s)
  have hrun := print_bytes (P := Try.prog) 9 35 5 Try.underlying9 Try.underlying35 Try.underlying5 s w
  generalize grownCap w s.size 0 5 = c1 at hrun
  generalize Lib.bytesWorld w 5 s = W1 at HB hrun
  go_enter Try.func39, Try.ntmps39
  go_wp2_with (go_at_call 41; ((with_reducible refine (nil_wRaw _ _).mono ?_)); rintro e w2 ⟨rfl, rfl⟩)
  go_end0
  exact ⟨rfl, HB.out⟩
theorem nil_read_int (F : Value) (w : World) : Calls Try.prog 79 #[.pointer none, F] w fun e w' => e = .returned (.int .i64 0) ∧ w = w' := by
  go_enter Try.func79, Try.ntmps79
  go_wp2
  go_ret
  exact ⟨rfl, rfl⟩
theorem nil_read_bool (F : Value) (w : World) : Calls Try.prog 83 #[.pointer none, F] w fun e w' => e = .returned (.bool false) ∧ w = w' := by
  go_enter Try.func83, Try.ntmps83
  go_wp2
  go_ret
  exact ⟨rfl, rfl⟩
theorem nil_read_raw (F : Value) (w : World) : Calls Try.prog 87 #[.pointer none, F] w fun e w' => e = .returned (.slice none 0 0) ∧ w = w' := by
  go_enter Try.func87, Try.ntmps87
  go_wp2
  go_ret
  exact ⟨rfl, rfl⟩
theorem nil_rNumber (n : Int) (w : World) : Calls Try.prog 31 #[.pointer none, .int .i64 n] w fun e w' => e = .returned (.int .i64 0) ∧ Below w.heap.size w w' := by
  go_enter Try.func31, Try.ntmps31
  go_wp2_with (go_at_call 79; ((with_reducible refine (nil_read_int _ _).mono ?_)); rintro e w2 ⟨rfl, rfl⟩)
  go_ret
  exact ⟨rfl, ((Below.refl _ _).alloc (Nat.le_refl _) _).alloc (by simp) _⟩
theorem nil_rCount (n : Int) (w : World) : Calls Try.prog 44 #[.pointer none, .int .i64 n] w fun e w' => e = .returned (.int .i64 0) ∧ Below w.heap.size w w' := by
  go_enter Try.func44, Try.ntmps44
  go_wp2_with (go_at_call 79; ((with_reducible refine (nil_read_int _ _).mono ?_)); rintro e w2 ⟨rfl, rfl⟩)
  go_ret
  exact ⟨rfl, ((Below.refl _ _).alloc (Nat.le_refl _) _).alloc (by simp) _⟩
theorem nil_rRaw (n : Int) (w : World) : Calls Try.prog 43 #[.pointer none, .int .i64 n] w fun e w' => e = .returned (.slice none 0 0) ∧ Below w.heap.size w w' := by
  go_enter Try.func43, Try.ntmps43
  go_wp2_with (go_at_call 87; ((with_reducible refine (nil_read_raw _ _).mono ?_)); rintro e w2 ⟨rfl, rfl⟩)
  go_ret
  exact ⟨rfl, ((Below.refl _ _).alloc (Nat.le_refl _) _).alloc (by simp) _⟩
theorem nil_rText (n : Int) (w : World) : Calls Try.prog 32 #[.pointer none, .int .i64 n] w fun e w' => e = .returned (.string (⟨#[]⟩ : ByteArray)) ∧ Below w.heap.size w w' := by
  have hcv : ∀ W : World, (convert 35 9 (.slice none 0 0)).run Try.prog W = .ok (.string (⟨#[]⟩ : ByteArray)) W := fun W => Kd.C_string (P := Try.prog) (c := 0) Try.underlying35 Try.underlying5 Try.underlying9 (xs := []) (by exact ⟨rfl, by simp, fun h => absurd h (Nat.lt_irrefl 0)⟩)
  go_enter Try.func32, Try.ntmps32
  go_wp2_with (go_at_call 43; ((with_reducible refine (nil_rRaw _ _).mono ?_)); rintro e w2 ⟨rfl, hb⟩; have HB := Aside0.mk hb; clear hb)
  go_ret
  exact ⟨rfl, HB.out⟩
theorem nil_rFlag (w : World) : Calls Try.prog 33 #[.pointer none] w fun e w' => e = .returned (.bool false) ∧ w = w' := by
  go_enter Try.func33, Try.ntmps33
  go_wp2
  go_ret
  exact ⟨rfl, rfl⟩
theorem nil_rErr (w : World) : Calls Try.prog 37 #[.pointer none] w fun e w' => e = .returned (.int .i64 1) ∧ w = w' := by
  go_enter Try.func37, Try.ntmps37
  go_wp2
  go_ret
  exact ⟨rfl, rfl⟩
theorem nil_rDone (w : World) : Calls Try.prog 34 #[.pointer none] w fun e w' => e = .returned (.int .i64 1) ∧ w = w' := by
  go_enter Try.func34, Try.ntmps34
  go_wp2_with (go_at_call 37; ((with_reducible refine (nil_rErr _).mono ?_)); rintro e w2 ⟨rfl, rfl⟩)
  go_ret
  exact ⟨rfl, rfl⟩
/-! ### changeoverlaw04_PackNobody: function 7 -/
def changeoverlaw04_PackNobody.f (a0 : Int) (a1 : ByteArray) : Option (Bool) := if (a1.size : Int) > 200 then ((changeoverlaw04_awake.f).bind fun t984 => (some t984)) else ((changeoverlaw04_awake.f).bind fun t985 => (some t985))
set_option maxHeartbeats 8000000 in
set_option maxRecDepth 100000 in
theorem changeoverlaw04_PackNobody.calls (a0 : Int) (a1 : ByteArray) (r : Bool) (w : World) (h : changeoverlaw04_PackNobody.f a0 a1 = some r) :
    Calls Try.prog 7 #[.int .i64 a0, .string a1] w fun e w' => e = .returned (.bool r) ∧ Below w.heap.size w w' := by
  obtain rfl : true = r := by
    rw [changeoverlaw04_PackNobody.f] at h
    split at h <;> simpa [changeoverlaw04_awake.f] using h
  clear h
  have HB := Aside0.mk (Below.refl w.heap.size w)
  by_cases c : (a1.size : Int) > 200
  · have cb : decide (200 < (a1.size : Int)) = true := decide_eq_true c
    clear c
    go_enter Try.func7, Try.ntmps7
    go_wp2_with (first | (go_at_call 38; ((with_reducible refine (nil_wNumber _ _).mono ?_)); rintro e w1 ⟨rfl, rfl⟩) | (go_at_call 39; ((with_reducible refine (nil_wText _ _).mono ?_)); rintro e w2 ⟨rfl, hb⟩; have HB2 := Aside0.mk (below_step HB.out hb); clear HB hb; have HB := HB2; clear HB2) | (go_at_call 40; ((with_reducible refine (nil_wFlag _ _).mono ?_)); rintro e w3 ⟨rfl, rfl⟩) | (go_at_call 41; ((with_reducible refine (nil_wRaw _ _).mono ?_)); rintro e w4 ⟨rfl, rfl⟩) | (go_at_call 42; ((with_reducible refine (nil_wBytes _).mono ?_)); rintro e w5 ⟨rfl, rfl⟩) | (go_at_call 31; ((with_reducible refine (nil_rNumber _ _).mono ?_)); rintro e w6 ⟨rfl, hb⟩; have HB2 := Aside0.mk (below_step HB.out hb); clear HB hb; have HB := HB2; clear HB2) | (go_at_call 32; ((with_reducible refine (nil_rText _ _).mono ?_)); rintro e w7 ⟨rfl, hb⟩; have HB2 := Aside0.mk (below_step HB.out hb); clear HB hb; have HB := HB2; clear HB2) | (go_at_call 33; ((with_reducible refine (nil_rFlag _).mono ?_)); rintro e w8 ⟨rfl, rfl⟩) | (go_at_call 43; ((with_reducible refine (nil_rRaw _ _).mono ?_)); rintro e w9 ⟨rfl, hb⟩; have HB2 := Aside0.mk (below_step HB.out hb); clear HB hb; have HB := HB2; clear HB2) | (go_at_call 44; ((with_reducible refine (nil_rCount _ _).mono ?_)); rintro e w10 ⟨rfl, hb⟩; have HB2 := Aside0.mk (below_step HB.out hb); clear HB hb; have HB := HB2; clear HB2) | (go_at_call 37; ((with_reducible refine (nil_rErr _).mono ?_)); rintro e w11 ⟨rfl, rfl⟩) | (go_at_call 34; ((with_reducible refine (nil_rDone _).mono ?_)); rintro e w12 ⟨rfl, rfl⟩) | (go_at_call 26; ((with_reducible refine (changeoverlaw04_awake.calls true _ rfl).mono ?_)); rintro e w13 ⟨rfl, hb⟩; have HB2 := Aside0.mk (below_step HB.out hb); clear HB hb; have HB := HB2; clear HB2))
    go_ret
    exact ⟨rfl, HB.out⟩
  · have cb : decide (200 < (a1.size : Int)) = false := decide_eq_false c
    clear c
    go_enter Try.func7, Try.ntmps7
    go_wp2_with (first | (go_at_call 38; ((with_reducible refine (nil_wNumber _ _).mono ?_)); rintro e w1 ⟨rfl, rfl⟩) | (go_at_call 39; ((with_reducible refine (nil_wText _ _).mono ?_)); rintro e w2 ⟨rfl, hb⟩; have HB2 := Aside0.mk (below_step HB.out hb); clear HB hb; have HB := HB2; clear HB2) | (go_at_call 40; ((with_reducible refine (nil_wFlag _ _).mono ?_)); rintro e w3 ⟨rfl, rfl⟩) | (go_at_call 41; ((with_reducible refine (nil_wRaw _ _).mono ?_)); rintro e w4 ⟨rfl, rfl⟩) | (go_at_call 42; ((with_reducible refine (nil_wBytes _).mono ?_)); rintro e w5 ⟨rfl, rfl⟩) | (go_at_call 31; ((with_reducible refine (nil_rNumber _ _).mono ?_)); rintro e w6 ⟨rfl, hb⟩; have HB2 := Aside0.mk (below_step HB.out hb); clear HB hb; have HB := HB2; clear HB2) | (go_at_call 32; ((with_reducible refine (nil_rText _ _).mono ?_)); rintro e w7 ⟨rfl, hb⟩; have HB2 := Aside0.mk (below_step HB.out hb); clear HB hb; have HB := HB2; clear HB2) | (go_at_call 33; ((with_reducible refine (nil_rFlag _).mono ?_)); rintro e w8 ⟨rfl, rfl⟩) | (go_at_call 43; ((with_reducible refine (nil_rRaw _ _).mono ?_)); rintro e w9 ⟨rfl, hb⟩; have HB2 := Aside0.mk (below_step HB.out hb); clear HB hb; have HB := HB2; clear HB2) | (go_at_call 44; ((with_reducible refine (nil_rCount _ _).mono ?_)); rintro e w10 ⟨rfl, hb⟩; have HB2 := Aside0.mk (below_step HB.out hb); clear HB hb; have HB := HB2; clear HB2) | (go_at_call 37; ((with_reducible refine (nil_rErr _).mono ?_)); rintro e w11 ⟨rfl, rfl⟩) | (go_at_call 34; ((with_reducible refine (nil_rDone _).mono ?_)); rintro e w12 ⟨rfl, rfl⟩) | (go_at_call 26; ((with_reducible refine (changeoverlaw04_awake.calls true _ rfl).mono ?_)); rintro e w13 ⟨rfl, hb⟩; have HB2 := Aside0.mk (below_step HB.out hb); clear HB hb; have HB := HB2; clear HB2))
    go_ret
    exact ⟨rfl, HB.out⟩

end Go.Proofs.Ytalpmbeddldfoaa.PA
