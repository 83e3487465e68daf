-- A text that a program wrote for this claim (print.py over stand-in bodies, tool/pr.sh).
import Derived.Test.YtalpmbeddldfoaaDoorF0
import Derived.Test.YtalpmbeddldfoaaDoorFRunesVal
import Derived.Test.YtalpmbeddldfoaaDoorHandAnswer
import Derived.Test.YtalpmbeddldfoaaDoorPKeyVal
import Derived.Test.YtalpmbeddldfoaaDoorHandT
namespace Go.Proofs.YtalpmbeddldfoaaDoor.PA
open Go.RowKit Go.Proofs.YtalpmbeddldfoaaDoor.Hand Go.Proofs.YtalpmbeddldfoaaDoorW.PrintWords Go.Proofs.YtalpmbeddldfoaaDoorW.PrintLast Go.Proofs.YtalpmbeddldfoaaDoorW.PrintMore
attribute [local go_sem] max2_int min2_int max_two min_two max_three min_three max_four min_four   -- for this text's walks alone
attribute [local go_sem high] str_leq str_gtr str_geq
set_option linter.unusedVariables false
set_option linter.unusedSimpArgs false

/-! ### answer_Check: function 83 -/
def answer_Check.j0 : Nat → Bool → Int → Int → Int → Bool → ByteArray → Int → Option (Int)
  | 0, _, _, _, _, _, _, _ => none
  | k + 1, x42, x172000, x172001, x172002, x172003, x172004, x172005 => if x42 = true then (some 6) else ((runes_Val.f k x172004).bind fun t173 => (if t173 = true then (some 0) else (some 7)))
def answer_Check.f (k : Nat) (a0_0 : Int) (a0_1 : Int) (a0_2 : Int) (a0_3 : Bool) (a0_4 : ByteArray) (a0_5 : Int) : Option (Int) := if a0_0 < 1 then (answer_Check.j0 k true a0_0 a0_1 a0_2 a0_3 a0_4 a0_5) else (if a0_0 > 8 then (answer_Check.j0 k true a0_0 a0_1 a0_2 a0_3 a0_4 a0_5) else (if a0_1 < 1 then (answer_Check.j0 k true a0_0 a0_1 a0_2 a0_3 a0_4 a0_5) else (if a0_1 > 4294967296 then (answer_Check.j0 k true a0_0 a0_1 a0_2 a0_3 a0_4 a0_5) else (if a0_2 < 0 then (answer_Check.j0 k true a0_0 a0_1 a0_2 a0_3 a0_4 a0_5) else (if a0_2 > 17 then (answer_Check.j0 k true a0_0 a0_1 a0_2 a0_3 a0_4 a0_5) else (if a0_5 < 0 then (answer_Check.j0 k true a0_0 a0_1 a0_2 a0_3 a0_4 a0_5) else (answer_Check.j0 k (decide (a0_5 > 4294967296)) a0_0 a0_1 a0_2 a0_3 a0_4 a0_5)))))))
theorem answer_Check.mono_l : ∀ k, (∀ y0 y1 y2 y3 y4 y5 y6, LeO (answer_Check.j0 k y0 y1 y2 y3 y4 y5 y6) (answer_Check.j0 (k + 1) y0 y1 y2 y3 y4 y5 y6))
  | 0 => fun _ _ _ _ _ _ _ r h => by simp [answer_Check.j0] at h
  | k + 1 => by
    have ih0 := answer_Check.mono_l k
    · intro y0 y1 y2 y3 y4 y5 y6
      unfold answer_Check.j0
      repeat' first
      | (with_reducible exact ih0 _ _ _ _ _ _ _)
      | (with_reducible exact runes_Val.mono _ _)
      | (with_reducible exact LeO.refl _)
      | (with_reducible exact LeO.none _)
      | (with_reducible refine LeO.ite ?_ ?_)
      | (with_reducible refine LeO.bind ?_ (fun _ => ?_))
      | exact ih0 _ _ _ _ _ _ _
      | exact runes_Val.mono _ _
      | exact LeO.none _
      | refine LeO.ite ?_ ?_
      | refine LeO.bind ?_ (fun _ => ?_)
theorem answer_Check.mono : ∀ a0 a1 a2 a3 a4 a5 k, LeO (answer_Check.f k a0 a1 a2 a3 a4 a5) (answer_Check.f (k + 1) a0 a1 a2 a3 a4 a5) := by
  intro a0 a1 a2 a3 a4 a5 k
  have ih0 := answer_Check.mono_l k
  unfold answer_Check.f
  repeat' first
      | (with_reducible exact ih0 _ _ _ _ _ _ _)
      | (with_reducible exact runes_Val.mono _ _)
      | (with_reducible exact LeO.refl _)
      | (with_reducible exact LeO.none _)
      | (with_reducible refine LeO.ite ?_ ?_)
      | (with_reducible refine LeO.bind ?_ (fun _ => ?_))
      | exact ih0 _ _ _ _ _ _ _
      | exact runes_Val.mono _ _
      | exact LeO.none _
      | refine LeO.ite ?_ ?_
      | refine LeO.bind ?_ (fun _ => ?_)
set_option maxHeartbeats 8000000 in
set_option maxRecDepth 100000 in
theorem answer_Check.calls (k : Nat) (a0_0 : Int) (a0_1 : Int) (a0_2 : Int) (a0_3 : Bool) (a0_4 : ByteArray) (a0_5 : Int) (r : Int) (w : World) (h : answer_Check.f k a0_0 a0_1 a0_2 a0_3 a0_4 a0_5 = some r) (hT : Tabs w) :
    Calls Tryd.prog 83 #[.agg #[.int .i64 a0_0, .int .i64 a0_1, .int .i64 a0_2, .bool a0_3, .string a0_4, .int .i64 a0_5]] w fun e w' => e = .returned (.int .i64 r) ∧ Below w.heap.size w w' := by
  by_cases hn : numB a0_0 a0_1 a0_2 a0_5 = true
  · have hn' := of_decide_eq_true hn
    have hf : answer_Check.f k a0_0 a0_1 a0_2 a0_3 a0_4 a0_5 = answer_Check.j0 k false a0_0 a0_1 a0_2 a0_3 a0_4 a0_5 := by
      unfold answer_Check.f
      rw [if_neg (by omega), if_neg (by omega), if_neg (by omega), if_neg (by omega), if_neg (by omega), if_neg (by omega), if_neg (by omega), decide_eq_false (by omega)]
    rw [hf] at h
    cases k with
    | zero => simp [answer_Check.j0] at h
    | succ k =>
      simp only [answer_Check.j0] at h
      rw [if_neg (by simp)] at h
      obtain ⟨t, ht, hr⟩ := Option.bind_eq_some_iff.mp h
      unfold runes_Val.f at ht
      by_cases hs : (a0_4.size : Int) > 1073741824
      · rw [if_pos hs, if_pos (by omega), if_neg (by omega)] at ht
        cases ht
      · rw [if_neg hs] at ht
        obtain ⟨t', ht', hr'⟩ := Option.bind_eq_some_iff.mp ht
        obtain rfl := Option.some.inj hr'
        obtain rfl := Ev_uniq (Ev.of (fun k => changeoverref05_Val.mono a0_4 k) ht') (refVal_ev a0_4 (by omega))
        have e : ansR a0_0 a0_1 a0_2 a0_4 a0_5 = r := by
          unfold ansR
          rw [if_pos hn]
          cases hv : valB a0_4
          · rw [hv] at hr
            rw [if_neg (by simp)] at hr ⊢
            exact Option.some.inj hr
          · rw [hv] at hr
            rw [if_pos rfl] at hr ⊢
            exact Option.some.inj hr
        rw [← e]
        exact ans_walk a0_0 a0_1 a0_2 a0_3 a0_4 a0_5 (fun _ => by omega) w hT
  · have hf : answer_Check.f k a0_0 a0_1 a0_2 a0_3 a0_4 a0_5 = answer_Check.j0 k true a0_0 a0_1 a0_2 a0_3 a0_4 a0_5 := by
      unfold answer_Check.f
      repeat' split
      all_goals first | rfl | skip
      rw [decide_eq_true]
      exact Classical.byContradiction fun hh => hn (decide_eq_true (by omega))
    rw [hf] at h
    cases k with
    | zero => simp [answer_Check.j0] at h
    | succ k =>
      simp only [answer_Check.j0] at h
      have e : ansR a0_0 a0_1 a0_2 a0_4 a0_5 = r := by
        unfold ansR
        rw [if_neg hn]
        simpa using h
      rw [← e]
      exact ans_walk a0_0 a0_1 a0_2 a0_3 a0_4 a0_5 (fun hh => absurd hh hn) w hT
end Go.Proofs.YtalpmbeddldfoaaDoor.PA
