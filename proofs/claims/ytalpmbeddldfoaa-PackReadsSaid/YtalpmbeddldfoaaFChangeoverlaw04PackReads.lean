-- A text that a program wrote for this claim (print.py over stand-in bodies, tool/pr.sh).
import Derived.Test.YtalpmbeddldfoaaF0
import Derived.Test.YtalpmbeddldfoaaFChangeoverlaw04Awake
import Derived.Test.YtalpmbeddldfoaaPStep
import Derived.Test.YtalpmbeddldfoaaFChangeoverlaw04Awake
import Derived.Test.YtalpmbeddldfoaaFPackNewReader
namespace Go.Proofs.Ytalpmbeddldfoaa.PA
open Go.RowKit Go.Proofs.Ytalpmbeddldfoaa.Hand Go.Proofs.YtalpmbeddldfoaaW.PrintWords Go.Proofs.YtalpmbeddldfoaaW.PrintLast Go.Proofs.YtalpmbeddldfoaaW.PrintMore
attribute [local go_sem] max2_int min2_int max_two min_two max_three min_three max_four min_four   -- for this text's walks alone
attribute [local go_sem high] str_leq str_gtr str_geq
set_option linter.unusedVariables false
set_option linter.unusedSimpArgs false

/-! ### changeoverlaw04_PackReads: function 6 -/
mutual
def changeoverlaw04_PackReads.l0 : Nat → List Int → List Int → Int → Option (Bool)
  | 0, _, _, _ => none
  | k + 1, x0, x1, x7 => if x7 < (x0.length : Int) then (if 0 ≤ x7 then (if (rd x0 x7) < 0 then (if 0 ≤ (x0.length : Int) then (if (x0.length : Int) < (x0.length : Int) then (some ((rd x0 (x0.length : Int)) == 0)) else (none)) else (none)) else (if (rd x0 x7) > 255 then (if 0 ≤ (x0.length : Int) then (if (x0.length : Int) < (x0.length : Int) then (some ((rd x0 (x0.length : Int)) == 0)) else (none)) else (none)) else (changeoverlaw04_PackReads.l0 k x0 x1 (wrap64 (x7 + 1))))) else (none)) else (changeoverlaw04_PackReads.l1 k x0 x1 0)
def changeoverlaw04_PackReads.l1 : Nat → List Int → List Int → Int → Option (Bool)
  | 0, _, _, _ => none
  | k + 1, x0, x1, x8 => if x8 < (x1.length : Int) then (if 0 ≤ x8 then (if (rd x1 x8) < 0 then (if 0 ≤ (x0.length : Int) then (if (x0.length : Int) < (x0.length : Int) then (some ((rd x0 (x0.length : Int)) == 0)) else (none)) else (none)) else (if (rd x1 x8) > 255 then (if 0 ≤ (x0.length : Int) then (if (x0.length : Int) < (x0.length : Int) then (some ((rd x0 (x0.length : Int)) == 0)) else (none)) else (none)) else (changeoverlaw04_PackReads.l1 k x0 x1 (wrap64 (x8 + 1))))) else (none)) else ((changeoverlaw04_awake.f).bind fun t958 => (some t958))
end
def changeoverlaw04_PackReads.f (k : Nat) (l0 : List Int) (l1 : List Int) (a2 : Int) : Option (Bool) := if (l0.length : Int) > 500 then ((changeoverlaw04_awake.f).bind fun t952 => (some t952)) else (if (l1.length : Int) > 60 then ((changeoverlaw04_awake.f).bind fun t953 => (some t953)) else (changeoverlaw04_PackReads.l0 k l0 l1 0))
theorem changeoverlaw04_PackReads.mono_l : ∀ k, (∀ y0 y1 y2, LeO (changeoverlaw04_PackReads.l0 k y0 y1 y2) (changeoverlaw04_PackReads.l0 (k + 1) y0 y1 y2)) ∧ (∀ y0 y1 y2, LeO (changeoverlaw04_PackReads.l1 k y0 y1 y2) (changeoverlaw04_PackReads.l1 (k + 1) y0 y1 y2))
  | 0 => ⟨fun _ _ _ r h => by simp [changeoverlaw04_PackReads.l0] at h, fun _ _ _ r h => by simp [changeoverlaw04_PackReads.l1] at h⟩
  | k + 1 => by
    obtain ⟨ih0, ih1⟩ := changeoverlaw04_PackReads.mono_l k
    refine ⟨?_, ?_⟩
    · intro y0 y1 y2
      unfold changeoverlaw04_PackReads.l0
      repeat' first
      | (with_reducible exact ih0 _ _ _)
      | (with_reducible exact ih1 _ _ _)
      | (with_reducible exact LeO.refl _)
      | (with_reducible exact LeO.none _)
      | (with_reducible refine LeO.ite ?_ ?_)
      | (with_reducible refine LeO.bind ?_ (fun _ => ?_))
      | exact ih0 _ _ _
      | exact ih1 _ _ _
      | exact LeO.none _
      | refine LeO.ite ?_ ?_
      | refine LeO.bind ?_ (fun _ => ?_)
    · intro y0 y1 y2
      unfold changeoverlaw04_PackReads.l1
      repeat' first
      | (with_reducible exact ih0 _ _ _)
      | (with_reducible exact ih1 _ _ _)
      | (with_reducible exact LeO.refl _)
      | (with_reducible exact LeO.none _)
      | (with_reducible refine LeO.ite ?_ ?_)
      | (with_reducible refine LeO.bind ?_ (fun _ => ?_))
      | exact ih0 _ _ _
      | exact ih1 _ _ _
      | exact LeO.none _
      | refine LeO.ite ?_ ?_
      | refine LeO.bind ?_ (fun _ => ?_)
theorem changeoverlaw04_PackReads.mono : ∀ a0 a1 a2 k, LeO (changeoverlaw04_PackReads.f k a0 a1 a2) (changeoverlaw04_PackReads.f (k + 1) a0 a1 a2) := by
  intro a0 a1 a2 k
  obtain ⟨ih0, ih1⟩ := changeoverlaw04_PackReads.mono_l k
  unfold changeoverlaw04_PackReads.f
  repeat' first
      | (with_reducible exact ih0 _ _ _)
      | (with_reducible exact ih1 _ _ _)
      | (with_reducible exact LeO.refl _)
      | (with_reducible exact LeO.none _)
      | (with_reducible refine LeO.ite ?_ ?_)
      | (with_reducible refine LeO.bind ?_ (fun _ => ?_))
      | exact ih0 _ _ _
      | exact ih1 _ _ _
      | exact LeO.none _
      | refine LeO.ite ?_ ?_
      | refine LeO.bind ?_ (fun _ => ?_)
theorem reads_guard1 (b kinds : List Int) (r : Bool) (hm : b.length ≤ 9223372036854775807) (hm2 : kinds.length ≤ 9223372036854775807) : ∀ (k : Nat) (i : Nat), changeoverlaw04_PackReads.l1 k b kinds (i : Int) = some r → r = true ∧ ∀ j : Nat, i ≤ j → j < kinds.length → 0 ≤ rd kinds j ∧ rd kinds j ≤ 255
  | 0, i, h => by simp [changeoverlaw04_PackReads.l1] at h
  | k + 1, i, h => by
    have hnn : ¬ ((b.length : Int) < (b.length : Int)) := by omega
    simp only [changeoverlaw04_PackReads.l1, hnn, if_false, ite_self] at h
    by_cases c : (i : Int) < (kinds.length : Int)
    · rw [if_pos c, if_pos (by omega)] at h
      split at h
      · cases h
      split at h
      · cases h
      rw [show wrap64 ((i : Int) + 1) = ((i + 1 : Nat) : Int) by unfold wrap64; omega] at h
      obtain ⟨i1, i2⟩ := reads_guard1 b kinds r hm hm2 k (i + 1) h
      refine ⟨i1, fun j hj hl => ?_⟩
      by_cases e : j = i
      · subst e; omega
      · exact i2 j (by omega) hl
    · rw [if_neg c] at h
      exact ⟨by simpa [changeoverlaw04_awake.f] using h.symm, fun j hj hl => by omega⟩
theorem reads_guard0 (b kinds : List Int) (r : Bool) (hm : b.length ≤ 9223372036854775807) (hm2 : kinds.length ≤ 9223372036854775807) : ∀ (k : Nat) (i : Nat), changeoverlaw04_PackReads.l0 k b kinds (i : Int) = some r → r = true ∧ (∀ j : Nat, i ≤ j → j < b.length → 0 ≤ rd b j ∧ rd b j ≤ 255) ∧ ∀ j : Nat, j < kinds.length → 0 ≤ rd kinds j ∧ rd kinds j ≤ 255
  | 0, i, h => by simp [changeoverlaw04_PackReads.l0] at h
  | k + 1, i, h => by
    have hnn : ¬ ((b.length : Int) < (b.length : Int)) := by omega
    simp only [changeoverlaw04_PackReads.l0, hnn, if_false, ite_self] at h
    by_cases c : (i : Int) < (b.length : Int)
    · rw [if_pos c, if_pos (by omega)] at h
      split at h
      · cases h
      split at h
      · cases h
      rw [show wrap64 ((i : Int) + 1) = ((i + 1 : Nat) : Int) by unfold wrap64; omega] at h
      obtain ⟨i1, i2, i3⟩ := reads_guard0 b kinds r hm hm2 k (i + 1) h
      refine ⟨i1, fun j hj hl => ?_, i3⟩
      by_cases e : j = i
      · subst e; omega
      · exact i2 j (by omega) hl
    · rw [if_neg c] at h
      obtain ⟨i1, i2⟩ := reads_guard1 b kinds r hm hm2 k 0 h
      exact ⟨i1, fun j hj hl => by omega, fun j hl => i2 j (by omega) hl⟩
theorem byt_of (l : List Int) (h : ∀ j : Nat, j < l.length → 0 ≤ rd l j ∧ rd l j ≤ 255) : Byt l := fun x hx => by
  obtain ⟨j, hj, rfl⟩ := List.mem_iff_getElem.1 hx
  have := h j hj
  have e : rd l (j : Int) = l[j] := by simp [rd, List.getD_eq_getElem?_getD, List.getElem?_eq_getElem hj]
  rwa [e] at this
set_option maxHeartbeats 8000000 in
set_option maxRecDepth 100000 in
theorem changeoverlaw04_PackReads.calls (k : Nat) (A0 : Option Addr) (c0 : Nat) (l0 : List Int) (A1 : Option Addr) (c1 : Nat) (l1 : List Int) (a2 : Int) (r : Bool) (w : World) (hr0 : Kd.C (Kd.int .u8) w A0 l0.length l0) (hc0 : l0.length ≤ c0) (hr1 : Kd.C (Kd.int .u8) w A1 l1.length l1) (hc1 : l1.length ≤ c1) (h : changeoverlaw04_PackReads.f k l0 l1 a2 = some r) :
    Calls Try.prog 6 #[.slice A0 l0.length c0, .slice A1 l1.length c1, .int .i64 a2] w fun e w' => e = .returned (.bool r) ∧ Below w.heap.size w w' := by
  have hm0 := Kd.C_max hr0
  have hm1 := Kd.C_max hr1
  rw [changeoverlaw04_PackReads.f] at h
  have HB := Aside0.mk (Below.refl w.heap.size w)
  by_cases c1 : (l0.length : Int) > 500
  · rw [if_pos c1] at h
    obtain rfl : true = r := by simpa [changeoverlaw04_awake.f] using h
    have c1b : decide (500 < (l0.length : Int)) = true := decide_eq_true c1
    have c1c : decide (500 < l0.length) = true := decide_eq_true (by omega)
    clear c1 h hr0 hc0 hr1 hc1 hm0 hm1
    go_enter Try.func6, Try.ntmps6
    go_wp2_with (go_at_call 26; ((with_reducible refine (changeoverlaw04_awake.calls true _ rfl).mono ?_)); rintro e w2 ⟨rfl, hb⟩; have HB2 := Aside0.mk (below_step HB.out hb); clear hb)
    go_ret
    exact ⟨rfl, HB2.out⟩
  rw [if_neg c1] at h
  by_cases c2 : (l1.length : Int) > 60
  · rw [if_pos c2] at h
    obtain rfl : true = r := by simpa [changeoverlaw04_awake.f] using h
    have c1b : decide (500 < (l0.length : Int)) = false := decide_eq_false c1
    have c1c : decide (500 < l0.length) = false := decide_eq_false (by omega)
    have c2b : decide (60 < (l1.length : Int)) = true := decide_eq_true c2
    have c2c : decide (60 < l1.length) = true := decide_eq_true (by omega)
    clear c1 c2 h hr0 hc0 hr1 hc1 hm0 hm1
    go_enter Try.func6, Try.ntmps6
    go_wp2_with (go_at_call 26; ((with_reducible refine (changeoverlaw04_awake.calls true _ rfl).mono ?_)); rintro e w2 ⟨rfl, hb⟩; have HB2 := Aside0.mk (below_step HB.out hb); clear hb)
    go_ret
    exact ⟨rfl, HB2.out⟩
  rw [if_neg c2] at h
  obtain ⟨rfl, hg0, hg1⟩ := reads_guard0 l0 l1 r hm0 hm1 k 0 h
  have hby := byt_of l0 (fun j hj => hg0 j (Nat.zero_le _) hj)
  have c1b : decide (500 < (l0.length : Int)) = false := decide_eq_false c1
  have c1c : decide (500 < l0.length) = false := decide_eq_false (by omega)
  have c2b : decide (60 < (l1.length : Int)) = false := decide_eq_false c2
  have c2c : decide (60 < l1.length) = false := decide_eq_false (by omega)
  have HL := Aside0.mk (And.intro c1 c2)
  have HBY := Aside0.mk hby
  have HG := Aside0.mk hg1
  have HNR := Aside0.mk (show pack_NewReader.f l0 = some (l0, 0, 0) by rw [pack_NewReader.f, if_neg (by omega)])
  have HR0 := Aside0.mk hr0
  have HC0 := Aside0.mk hc0
  have HR1 := Aside0.mk hr1
  have HC1 := Aside0.mk hc1
  clear c1 c2 h hr0 hc0 hr1 hc1 hm0 hm1 hg0 hg1 hby
  go_enter Try.func6, Try.ntmps6
  go_wp2_with (go_at_call 30; ((with_reducible refine (pack_NewReader.calls _ _ l0 l0 0 0 _ HR0.out HC0.out HNR.out).mono ?_)); rintro e w2 ⟨g, w1, rfl, hi, hb, hb2⟩; have HI := Aside0.mk hi; have HBQ := Aside0.mk hb2; have HB1 := Aside0.mk hb; clear hi hb hb2 HB; have HB := HB1; clear HB1)
  replace HR0 := Aside0.mk (Kd.C_below HR0.out HBQ.out)
  replace HR1 := Aside0.mk (Kd.C_below HR1.out HBQ.out)
  go_loopg [8, 9, 10] (l1.length + 1) (fun kq v8 v9 v10 w' => ∃ (x8 bad i ra : Int), v8 = .int .i64 x8 ∧ v9 = .int .i64 bad ∧ v10 = .int .i64 i ∧ Aside0 (0 ≤ i ∧ (l1.length : Int) < i + kq ∧ (bad = 0 → ∃ a : Nat, a ≤ l0.length ∧ x8 = a ∧ ra = a)) ∧ Aside0 (IsS102 w1 w' g l0 ra bad) ∧ Aside0 (Below w1.heap.size w1 w'))
  case atStart => exact ⟨0, 0, 0, 0, rfl, rfl, rfl, ⟨by omega, by omega, fun _ => ⟨0, by omega, rfl, rfl⟩⟩, HI, HB⟩
  case round =>
    clear HI HB
    obtain ⟨x8, bad, i, ra, rfl, rfl, rfl, HX, HI, HB⟩ := hrel
    have hl := HL.out
    by_cases ci : i < (l1.length : Int)
    · obtain ⟨k1, rfl⟩ : ∃ k1, gk = k1 + 1 := ⟨gk - 1, by have := HX.out.2.1; omega⟩
      obtain ⟨ad, e, hx⟩ := Kd.at_int HR1.out i HX.out.1 ci
      cases e
      replace hx := (HB.out.cell (World.block_lt_of_cell? w1 _ hx)).trans hx
      obtain ⟨hc0, hc1⟩ : 0 ≤ rd l1 i ∧ rd l1 i ≤ 255 := by
        have := HG.out i.toNat (by have := HX.out.1; omega)
        rwa [Int.toNat_of_nonneg HX.out.1] at this
      generalize rd l1 i = c at hx hc0 hc1
      obtain ⟨kk, hkk⟩ : ∃ kk, c % 5 + 1 = kk := ⟨_, rfl⟩
      have hk1 : 1 ≤ kk := by omega
      have hk5 : kk ≤ 5 := by omega
      have hi0 := eq_true HX.out.1
      have ci' := eq_true ci
      have him : i + 1 ≤ 9223372036854775807 := by omega
      clear ci
      by_cases cb : bad = 0
      · subst cb
        obtain ⟨a, ha, rfl, rfl⟩ := HX.out.2.2 rfl
        obtain ⟨N, S, Is, ra2, no, hE, hT⟩ := read_step (bs := l0) (at_ := a) ⟨HBY.out, by omega, ha⟩ kk a2 hk1 hk5
        rcases hT with ⟨rfl, n, rfl, hn, hF⟩ | ⟨hno, rfl, rfl, rfl, hF⟩
        · obtain ⟨K1, hK1⟩ := hE
          obtain ⟨K2, hK2⟩ := hF
          have HRD := Aside0.mk (hK1 (max K1 K2) (by omega))
          have HRF := Aside0.mk (hK2 (max K1 K2) (by omega))
          generalize max K1 K2 = K at HRD HRF
          clear hK1 hK2
          by_cases c5 : kk = 5
          · subst c5
            rw [if_pos rfl] at HRD HRF
            go_wp2_with (first | (go_at_call 35; ((with_reducible refine (changeoverlaw04_read.calls K g l0 (a : Int) 0 5 a2 2 N S Is (n : Int) 0 w1 _ (by repeat (first | (with_reducible first | exact HI.out | apply IsS102.alloc) | exact HI.out | (refine IsS102.far ?_ (by have := IsS102.lt HI.out; simp at this ⊢; omega) _))) (by repeat (first | (with_reducible first | exact HB.out | apply below_alloc) | exact HB.out | (refine below_set ?_ (by have := HB.out.size; simp at this ⊢; omega)))) HRD.out).mono ?_)); rintro e wr1 ⟨rfl, hi, hb, hk⟩; have HI2 := Aside0.mk hi; have HB2 := Aside0.mk hb; clear hi hb hk HI HB; have HI := HI2; have HB := HB2; clear HI2 HB2) | (go_at_call 36; ((with_reducible refine (changeoverref04_Read.calls K _ _ l0 (a : Int) 2 a2 2 N S Is (n : Int) 0 _ ?sr HC0.out HRF.out).mono ?_)); (case sr => exact Kd.C_below HR0.out (by repeat (first | (with_reducible first | exact HB.out | apply below_alloc) | exact HB.out | (refine below_set ?_ (by have := HB.out.size; simp at this ⊢; omega))))); rintro e wr2 ⟨rfl, hb⟩; have g1 := IsS102.lt HI.out; have g2 := HB.out.size; have x1 := (keeps hb).1; have x2 := (keeps hb).2; have y0 : wr2.cell? ⟨wr1.heap.size, 0, none⟩ = some (.int .i64 2) := (by rw [x1 _ _ (by simp; try omega)]; simp); have y1 : wr2.cell? ⟨wr1.heap.size, 1, none⟩ = some (.int .i64 N) := (by rw [x1 _ _ (by simp; try omega)]; simp); have y2 : wr2.cell? ⟨wr1.heap.size, 2, none⟩ = some (.string S) := (by rw [x1 _ _ (by simp; try omega)]; simp); have y3 : wr2.cell? ⟨wr1.heap.size, 3, none⟩ = some (.bool Is) := (by rw [x1 _ _ (by simp; try omega)]; simp); have q0 : wr2.cell? ⟨wr1.heap.size + 1, 0, none⟩ = some (.int .i64 0) := (by rw [x1 _ _ (by simp; try omega)]; simp); have p0 : wr2.frozen? ⟨wr1.heap.size + 1, 0, none⟩ = false := (by rw [x2 _ _ (by simp; try omega)]; simp); have q1 : wr2.cell? ⟨wr1.heap.size + 1, 1, none⟩ = some (.int .i64 0) := (by rw [x1 _ _ (by simp; try omega)]; simp); have p1 : wr2.frozen? ⟨wr1.heap.size + 1, 1, none⟩ = false := (by rw [x2 _ _ (by simp; try omega)]; simp); have q2 : wr2.cell? ⟨wr1.heap.size + 1, 2, none⟩ = some (.string ⟨#[]⟩) := (by rw [x1 _ _ (by simp; try omega)]; simp); have p2 : wr2.frozen? ⟨wr1.heap.size + 1, 2, none⟩ = false := (by rw [x2 _ _ (by simp; try omega)]; simp); have q3 : wr2.cell? ⟨wr1.heap.size + 1, 3, none⟩ = some (.bool false) := (by rw [x1 _ _ (by simp; try omega)]; simp); have p3 : wr2.frozen? ⟨wr1.heap.size + 1, 3, none⟩ = false := (by rw [x2 _ _ (by simp; try omega)]; simp); have hsz := hb.size; simp only [World.size_alloc, World.size_setCell] at hsz; have s1 : wr1.heap.size < wr2.heap.size := (by omega); have s2 : wr1.heap.size + 1 < wr2.heap.size := (by omega); have s3 : ¬ (wr1.heap.size = wr2.heap.size) := (by omega); have s4 : ¬ (wr1.heap.size + 1 = wr2.heap.size) := (by omega); clear x1 x2 hsz; have HI2 := Aside0.mk (IsS102.below (by repeat (first | (with_reducible first | exact HI.out | apply IsS102.alloc) | exact HI.out | (refine IsS102.far ?_ (by have := IsS102.lt HI.out; simp at this ⊢; omega) _))) hb); have HB2 := Aside0.mk (below_weaken (by repeat (first | (with_reducible first | exact HB.out | apply below_alloc) | exact HB.out | (refine below_set ?_ (by have := HB.out.size; simp at this ⊢; omega)))) (by have := HB.out.size; simp at this ⊢; omega) hb); clear hb HI HB; have HI := HI2; have HB := HB2; clear HI2 HB2) | (go_at_call 37; ((with_reducible refine (pack_Reader_Err.calls _ l0 (n : Int) 0 _ _ _ w1 _ (by repeat (first | (with_reducible first | exact HI.out | apply IsS102.alloc) | exact HI.out | (refine IsS102.far ?_ (by have := IsS102.lt HI.out; simp at this ⊢; omega) _))) (by repeat (first | (with_reducible first | exact HB.out | apply below_alloc) | exact HB.out | (refine below_set ?_ (by have := HB.out.size; simp at this ⊢; omega)))) rfl).mono ?_)); rintro e wr3 ⟨rfl, hi, hb, hk⟩; have HI2 := Aside0.mk hi; have HB2 := Aside0.mk hb; clear hi hb hk HI HB; have HI := HI2; have HB := HB2; clear HI2 HB2))
            go_roundg k1
            case measure => omega
            case rel => exact ⟨(n : Int), 0, i + 1, (n : Int), rfl, rfl, (by have := HX.out.1; rw [show wrap64 (i + 1) = i + 1 by unfold wrap64; omega]), ⟨by have := HX.out.1; omega, by have := HX.out.2.1; omega, fun _ => ⟨n, hn, rfl, rfl⟩⟩, HI, HB⟩
          · have c5b : (kk == 5) = false := beq_eq_false_iff_ne.mpr c5
            rw [if_neg c5] at HRD HRF
            clear c5
            go_wp2_with (first | (go_at_call 35; ((with_reducible refine (changeoverlaw04_read.calls K g l0 (a : Int) 0 kk a2 kk N S Is (n : Int) 0 w1 _ (by repeat (first | (with_reducible first | exact HI.out | apply IsS102.alloc) | exact HI.out | (refine IsS102.far ?_ (by have := IsS102.lt HI.out; simp at this ⊢; omega) _))) (by repeat (first | (with_reducible first | exact HB.out | apply below_alloc) | exact HB.out | (refine below_set ?_ (by have := HB.out.size; simp at this ⊢; omega)))) HRD.out).mono ?_)); rintro e wr1 ⟨rfl, hi, hb, hk⟩; have HI2 := Aside0.mk hi; have HB2 := Aside0.mk hb; clear hi hb hk HI HB; have HI := HI2; have HB := HB2; clear HI2 HB2) | (go_at_call 36; ((with_reducible refine (changeoverref04_Read.calls K _ _ l0 (a : Int) kk a2 kk N S Is (n : Int) 0 _ ?sr HC0.out HRF.out).mono ?_)); (case sr => exact Kd.C_below HR0.out (by repeat (first | (with_reducible first | exact HB.out | apply below_alloc) | exact HB.out | (refine below_set ?_ (by have := HB.out.size; simp at this ⊢; omega))))); rintro e wr2 ⟨rfl, hb⟩; have g1 := IsS102.lt HI.out; have g2 := HB.out.size; have x1 := (keeps hb).1; have x2 := (keeps hb).2; have y0 : wr2.cell? ⟨wr1.heap.size, 0, none⟩ = some (.int .i64 kk) := (by rw [x1 _ _ (by simp; try omega)]; simp); have y1 : wr2.cell? ⟨wr1.heap.size, 1, none⟩ = some (.int .i64 N) := (by rw [x1 _ _ (by simp; try omega)]; simp); have y2 : wr2.cell? ⟨wr1.heap.size, 2, none⟩ = some (.string S) := (by rw [x1 _ _ (by simp; try omega)]; simp); have y3 : wr2.cell? ⟨wr1.heap.size, 3, none⟩ = some (.bool Is) := (by rw [x1 _ _ (by simp; try omega)]; simp); have q0 : wr2.cell? ⟨wr1.heap.size + 1, 0, none⟩ = some (.int .i64 0) := (by rw [x1 _ _ (by simp; try omega)]; simp); have p0 : wr2.frozen? ⟨wr1.heap.size + 1, 0, none⟩ = false := (by rw [x2 _ _ (by simp; try omega)]; simp); have q1 : wr2.cell? ⟨wr1.heap.size + 1, 1, none⟩ = some (.int .i64 0) := (by rw [x1 _ _ (by simp; try omega)]; simp); have p1 : wr2.frozen? ⟨wr1.heap.size + 1, 1, none⟩ = false := (by rw [x2 _ _ (by simp; try omega)]; simp); have q2 : wr2.cell? ⟨wr1.heap.size + 1, 2, none⟩ = some (.string ⟨#[]⟩) := (by rw [x1 _ _ (by simp; try omega)]; simp); have p2 : wr2.frozen? ⟨wr1.heap.size + 1, 2, none⟩ = false := (by rw [x2 _ _ (by simp; try omega)]; simp); have q3 : wr2.cell? ⟨wr1.heap.size + 1, 3, none⟩ = some (.bool false) := (by rw [x1 _ _ (by simp; try omega)]; simp); have p3 : wr2.frozen? ⟨wr1.heap.size + 1, 3, none⟩ = false := (by rw [x2 _ _ (by simp; try omega)]; simp); have hsz := hb.size; simp only [World.size_alloc, World.size_setCell] at hsz; have s1 : wr1.heap.size < wr2.heap.size := (by omega); have s2 : wr1.heap.size + 1 < wr2.heap.size := (by omega); have s3 : ¬ (wr1.heap.size = wr2.heap.size) := (by omega); have s4 : ¬ (wr1.heap.size + 1 = wr2.heap.size) := (by omega); clear x1 x2 hsz; have HI2 := Aside0.mk (IsS102.below (by repeat (first | (with_reducible first | exact HI.out | apply IsS102.alloc) | exact HI.out | (refine IsS102.far ?_ (by have := IsS102.lt HI.out; simp at this ⊢; omega) _))) hb); have HB2 := Aside0.mk (below_weaken (by repeat (first | (with_reducible first | exact HB.out | apply below_alloc) | exact HB.out | (refine below_set ?_ (by have := HB.out.size; simp at this ⊢; omega)))) (by have := HB.out.size; simp at this ⊢; omega) hb); clear hb HI HB; have HI := HI2; have HB := HB2; clear HI2 HB2) | (go_at_call 37; ((with_reducible refine (pack_Reader_Err.calls _ l0 (n : Int) 0 _ _ _ w1 _ (by repeat (first | (with_reducible first | exact HI.out | apply IsS102.alloc) | exact HI.out | (refine IsS102.far ?_ (by have := IsS102.lt HI.out; simp at this ⊢; omega) _))) (by repeat (first | (with_reducible first | exact HB.out | apply below_alloc) | exact HB.out | (refine below_set ?_ (by have := HB.out.size; simp at this ⊢; omega)))) rfl).mono ?_)); rintro e wr3 ⟨rfl, hi, hb, hk⟩; have HI2 := Aside0.mk hi; have HB2 := Aside0.mk hb; clear hi hb hk HI HB; have HI := HI2; have HB := HB2; clear HI2 HB2))
            go_roundg k1
            case measure => omega
            case rel => exact ⟨(n : Int), 0, i + 1, (n : Int), rfl, rfl, (by have := HX.out.1; rw [show wrap64 (i + 1) = i + 1 by unfold wrap64; omega]), ⟨by have := HX.out.1; omega, by have := HX.out.2.1; omega, fun _ => ⟨n, hn, rfl, rfl⟩⟩, HI, HB⟩
        · obtain ⟨K1, hK1⟩ := hE
          obtain ⟨K2, hK2⟩ := hF
          have HRD := Aside0.mk (hK1 (max K1 K2) (by omega))
          have HRF := Aside0.mk (hK2 (max K1 K2) (by omega))
          generalize max K1 K2 = K at HRD HRF
          have nob : (no == 0) = false := beq_eq_false_iff_ne.mpr hno
          have HNO := Aside0.mk hno
          clear hno
          clear hK1 hK2
          by_cases c5 : kk = 5
          · subst c5
            rw [if_pos rfl] at HRD HRF
            go_wp2_with (first | (go_at_call 35; ((with_reducible refine (changeoverlaw04_read.calls K g l0 (a : Int) 0 5 a2 2 0 ⟨#[]⟩ false ra2 no w1 _ (by repeat (first | (with_reducible first | exact HI.out | apply IsS102.alloc) | exact HI.out | (refine IsS102.far ?_ (by have := IsS102.lt HI.out; simp at this ⊢; omega) _))) (by repeat (first | (with_reducible first | exact HB.out | apply below_alloc) | exact HB.out | (refine below_set ?_ (by have := HB.out.size; simp at this ⊢; omega)))) HRD.out).mono ?_)); rintro e wr1 ⟨rfl, hi, hb, hk⟩; have HI2 := Aside0.mk hi; have HB2 := Aside0.mk hb; clear hi hb hk HI HB; have HI := HI2; have HB := HB2; clear HI2 HB2) | (go_at_call 36; ((with_reducible refine (changeoverref04_Read.calls K _ _ l0 (a : Int) 2 a2 0 0 ⟨#[]⟩ false 0 no _ ?sr HC0.out HRF.out).mono ?_)); (case sr => exact Kd.C_below HR0.out (by repeat (first | (with_reducible first | exact HB.out | apply below_alloc) | exact HB.out | (refine below_set ?_ (by have := HB.out.size; simp at this ⊢; omega))))); rintro e wr2 ⟨rfl, hb⟩; have g1 := IsS102.lt HI.out; have g2 := HB.out.size; have x1 := (keeps hb).1; have x2 := (keeps hb).2; have y0 : wr2.cell? ⟨wr1.heap.size, 0, none⟩ = some (.int .i64 2) := (by rw [x1 _ _ (by simp; try omega)]; simp); have y1 : wr2.cell? ⟨wr1.heap.size, 1, none⟩ = some (.int .i64 0) := (by rw [x1 _ _ (by simp; try omega)]; simp); have y2 : wr2.cell? ⟨wr1.heap.size, 2, none⟩ = some (.string ⟨#[]⟩) := (by rw [x1 _ _ (by simp; try omega)]; simp); have y3 : wr2.cell? ⟨wr1.heap.size, 3, none⟩ = some (.bool false) := (by rw [x1 _ _ (by simp; try omega)]; simp); have q0 : wr2.cell? ⟨wr1.heap.size + 1, 0, none⟩ = some (.int .i64 0) := (by rw [x1 _ _ (by simp; try omega)]; simp); have p0 : wr2.frozen? ⟨wr1.heap.size + 1, 0, none⟩ = false := (by rw [x2 _ _ (by simp; try omega)]; simp); have q1 : wr2.cell? ⟨wr1.heap.size + 1, 1, none⟩ = some (.int .i64 0) := (by rw [x1 _ _ (by simp; try omega)]; simp); have p1 : wr2.frozen? ⟨wr1.heap.size + 1, 1, none⟩ = false := (by rw [x2 _ _ (by simp; try omega)]; simp); have q2 : wr2.cell? ⟨wr1.heap.size + 1, 2, none⟩ = some (.string ⟨#[]⟩) := (by rw [x1 _ _ (by simp; try omega)]; simp); have p2 : wr2.frozen? ⟨wr1.heap.size + 1, 2, none⟩ = false := (by rw [x2 _ _ (by simp; try omega)]; simp); have q3 : wr2.cell? ⟨wr1.heap.size + 1, 3, none⟩ = some (.bool false) := (by rw [x1 _ _ (by simp; try omega)]; simp); have p3 : wr2.frozen? ⟨wr1.heap.size + 1, 3, none⟩ = false := (by rw [x2 _ _ (by simp; try omega)]; simp); have hsz := hb.size; simp only [World.size_alloc, World.size_setCell] at hsz; have s1 : wr1.heap.size < wr2.heap.size := (by omega); have s2 : wr1.heap.size + 1 < wr2.heap.size := (by omega); have s3 : ¬ (wr1.heap.size = wr2.heap.size) := (by omega); have s4 : ¬ (wr1.heap.size + 1 = wr2.heap.size) := (by omega); clear x1 x2 hsz; have HI2 := Aside0.mk (IsS102.below (by repeat (first | (with_reducible first | exact HI.out | apply IsS102.alloc) | exact HI.out | (refine IsS102.far ?_ (by have := IsS102.lt HI.out; simp at this ⊢; omega) _))) hb); have HB2 := Aside0.mk (below_weaken (by repeat (first | (with_reducible first | exact HB.out | apply below_alloc) | exact HB.out | (refine below_set ?_ (by have := HB.out.size; simp at this ⊢; omega)))) (by have := HB.out.size; simp at this ⊢; omega) hb); clear hb HI HB; have HI := HI2; have HB := HB2; clear HI2 HB2) | (go_at_call 37; ((with_reducible refine (pack_Reader_Err.calls _ l0 ra2 no _ _ _ w1 _ (by repeat (first | (with_reducible first | exact HI.out | apply IsS102.alloc) | exact HI.out | (refine IsS102.far ?_ (by have := IsS102.lt HI.out; simp at this ⊢; omega) _))) (by repeat (first | (with_reducible first | exact HB.out | apply below_alloc) | exact HB.out | (refine below_set ?_ (by have := HB.out.size; simp at this ⊢; omega)))) rfl).mono ?_)); rintro e wr3 ⟨rfl, hi, hb, hk⟩; have HI2 := Aside0.mk hi; have HB2 := Aside0.mk hb; clear hi hb hk HI HB; have HI := HI2; have HB := HB2; clear HI2 HB2))
            go_roundg k1
            case measure => omega
            case rel => exact ⟨0, no, i + 1, ra2, rfl, rfl, (by have := HX.out.1; rw [show wrap64 (i + 1) = i + 1 by unfold wrap64; omega]), ⟨by have := HX.out.1; omega, by have := HX.out.2.1; omega, fun e => absurd e HNO.out⟩, HI, HB⟩
          · have c5b : (kk == 5) = false := beq_eq_false_iff_ne.mpr c5
            rw [if_neg c5] at HRD HRF
            clear c5
            go_wp2_with (first | (go_at_call 35; ((with_reducible refine (changeoverlaw04_read.calls K g l0 (a : Int) 0 kk a2 kk 0 ⟨#[]⟩ false ra2 no w1 _ (by repeat (first | (with_reducible first | exact HI.out | apply IsS102.alloc) | exact HI.out | (refine IsS102.far ?_ (by have := IsS102.lt HI.out; simp at this ⊢; omega) _))) (by repeat (first | (with_reducible first | exact HB.out | apply below_alloc) | exact HB.out | (refine below_set ?_ (by have := HB.out.size; simp at this ⊢; omega)))) HRD.out).mono ?_)); rintro e wr1 ⟨rfl, hi, hb, hk⟩; have HI2 := Aside0.mk hi; have HB2 := Aside0.mk hb; clear hi hb hk HI HB; have HI := HI2; have HB := HB2; clear HI2 HB2) | (go_at_call 36; ((with_reducible refine (changeoverref04_Read.calls K _ _ l0 (a : Int) kk a2 0 0 ⟨#[]⟩ false 0 no _ ?sr HC0.out HRF.out).mono ?_)); (case sr => exact Kd.C_below HR0.out (by repeat (first | (with_reducible first | exact HB.out | apply below_alloc) | exact HB.out | (refine below_set ?_ (by have := HB.out.size; simp at this ⊢; omega))))); rintro e wr2 ⟨rfl, hb⟩; have g1 := IsS102.lt HI.out; have g2 := HB.out.size; have x1 := (keeps hb).1; have x2 := (keeps hb).2; have y0 : wr2.cell? ⟨wr1.heap.size, 0, none⟩ = some (.int .i64 kk) := (by rw [x1 _ _ (by simp; try omega)]; simp); have y1 : wr2.cell? ⟨wr1.heap.size, 1, none⟩ = some (.int .i64 0) := (by rw [x1 _ _ (by simp; try omega)]; simp); have y2 : wr2.cell? ⟨wr1.heap.size, 2, none⟩ = some (.string ⟨#[]⟩) := (by rw [x1 _ _ (by simp; try omega)]; simp); have y3 : wr2.cell? ⟨wr1.heap.size, 3, none⟩ = some (.bool false) := (by rw [x1 _ _ (by simp; try omega)]; simp); have q0 : wr2.cell? ⟨wr1.heap.size + 1, 0, none⟩ = some (.int .i64 0) := (by rw [x1 _ _ (by simp; try omega)]; simp); have p0 : wr2.frozen? ⟨wr1.heap.size + 1, 0, none⟩ = false := (by rw [x2 _ _ (by simp; try omega)]; simp); have q1 : wr2.cell? ⟨wr1.heap.size + 1, 1, none⟩ = some (.int .i64 0) := (by rw [x1 _ _ (by simp; try omega)]; simp); have p1 : wr2.frozen? ⟨wr1.heap.size + 1, 1, none⟩ = false := (by rw [x2 _ _ (by simp; try omega)]; simp); have q2 : wr2.cell? ⟨wr1.heap.size + 1, 2, none⟩ = some (.string ⟨#[]⟩) := (by rw [x1 _ _ (by simp; try omega)]; simp); have p2 : wr2.frozen? ⟨wr1.heap.size + 1, 2, none⟩ = false := (by rw [x2 _ _ (by simp; try omega)]; simp); have q3 : wr2.cell? ⟨wr1.heap.size + 1, 3, none⟩ = some (.bool false) := (by rw [x1 _ _ (by simp; try omega)]; simp); have p3 : wr2.frozen? ⟨wr1.heap.size + 1, 3, none⟩ = false := (by rw [x2 _ _ (by simp; try omega)]; simp); have hsz := hb.size; simp only [World.size_alloc, World.size_setCell] at hsz; have s1 : wr1.heap.size < wr2.heap.size := (by omega); have s2 : wr1.heap.size + 1 < wr2.heap.size := (by omega); have s3 : ¬ (wr1.heap.size = wr2.heap.size) := (by omega); have s4 : ¬ (wr1.heap.size + 1 = wr2.heap.size) := (by omega); clear x1 x2 hsz; have HI2 := Aside0.mk (IsS102.below (by repeat (first | (with_reducible first | exact HI.out | apply IsS102.alloc) | exact HI.out | (refine IsS102.far ?_ (by have := IsS102.lt HI.out; simp at this ⊢; omega) _))) hb); have HB2 := Aside0.mk (below_weaken (by repeat (first | (with_reducible first | exact HB.out | apply below_alloc) | exact HB.out | (refine below_set ?_ (by have := HB.out.size; simp at this ⊢; omega)))) (by have := HB.out.size; simp at this ⊢; omega) hb); clear hb HI HB; have HI := HI2; have HB := HB2; clear HI2 HB2) | (go_at_call 37; ((with_reducible refine (pack_Reader_Err.calls _ l0 ra2 no _ _ _ w1 _ (by repeat (first | (with_reducible first | exact HI.out | apply IsS102.alloc) | exact HI.out | (refine IsS102.far ?_ (by have := IsS102.lt HI.out; simp at this ⊢; omega) _))) (by repeat (first | (with_reducible first | exact HB.out | apply below_alloc) | exact HB.out | (refine below_set ?_ (by have := HB.out.size; simp at this ⊢; omega)))) rfl).mono ?_)); rintro e wr3 ⟨rfl, hi, hb, hk⟩; have HI2 := Aside0.mk hi; have HB2 := Aside0.mk hb; clear hi hb hk HI HB; have HI := HI2; have HB := HB2; clear HI2 HB2))
            go_roundg k1
            case measure => omega
            case rel => exact ⟨0, no, i + 1, ra2, rfl, rfl, (by have := HX.out.1; rw [show wrap64 (i + 1) = i + 1 by unfold wrap64; omega]), ⟨by have := HX.out.1; omega, by have := HX.out.2.1; omega, fun e => absurd e HNO.out⟩, HI, HB⟩
      · have HCB := Aside0.mk cb
        have cbb : (bad == 0) = false := beq_eq_false_iff_ne.mpr cb
        have HRD := Aside0.mk (read_dead l0 ra bad cb kk a2 hk1 hk5 0)
        clear cb
        by_cases c5 : kk = 5
        · subst c5
          rw [if_pos rfl] at HRD
          go_wp2_with (first | (go_at_call 35; ((with_reducible refine (changeoverlaw04_read.calls 0 g l0 ra bad 5 a2 2 0 ⟨#[]⟩ false ra bad w1 _ (by repeat (first | (with_reducible first | exact HI.out | apply IsS102.alloc) | exact HI.out | (refine IsS102.far ?_ (by have := IsS102.lt HI.out; simp at this ⊢; omega) _))) (by repeat (first | (with_reducible first | exact HB.out | apply below_alloc) | exact HB.out | (refine below_set ?_ (by have := HB.out.size; simp at this ⊢; omega)))) HRD.out).mono ?_)); rintro e wr1 ⟨rfl, hi, hb, hk⟩; have HI2 := Aside0.mk hi; have HB2 := Aside0.mk hb; clear hi hb hk HI HB; have HI := HI2; have HB := HB2; clear HI2 HB2) | (go_at_call 37; ((with_reducible refine (pack_Reader_Err.calls _ l0 ra bad _ _ _ w1 _ (by repeat (first | (with_reducible first | exact HI.out | apply IsS102.alloc) | exact HI.out | (refine IsS102.far ?_ (by have := IsS102.lt HI.out; simp at this ⊢; omega) _))) (by repeat (first | (with_reducible first | exact HB.out | apply below_alloc) | exact HB.out | (refine below_set ?_ (by have := HB.out.size; simp at this ⊢; omega)))) rfl).mono ?_)); rintro e wr3 ⟨rfl, hi, hb, hk⟩; have HI2 := Aside0.mk hi; have HB2 := Aside0.mk hb; clear hi hb hk HI HB; have HI := HI2; have HB := HB2; clear HI2 HB2))
          go_roundg k1
          case measure => omega
          case rel => exact ⟨x8, bad, i + 1, ra, rfl, rfl, (by have := HX.out.1; rw [show wrap64 (i + 1) = i + 1 by unfold wrap64; omega]), ⟨by have := HX.out.1; omega, by have := HX.out.2.1; omega, fun e => absurd e HCB.out⟩, HI, HB⟩
        · have c5b : (kk == 5) = false := beq_eq_false_iff_ne.mpr c5
          rw [if_neg c5] at HRD
          clear c5
          go_wp2_with (first | (go_at_call 35; ((with_reducible refine (changeoverlaw04_read.calls 0 g l0 ra bad kk a2 kk 0 ⟨#[]⟩ false ra bad w1 _ (by repeat (first | (with_reducible first | exact HI.out | apply IsS102.alloc) | exact HI.out | (refine IsS102.far ?_ (by have := IsS102.lt HI.out; simp at this ⊢; omega) _))) (by repeat (first | (with_reducible first | exact HB.out | apply below_alloc) | exact HB.out | (refine below_set ?_ (by have := HB.out.size; simp at this ⊢; omega)))) HRD.out).mono ?_)); rintro e wr1 ⟨rfl, hi, hb, hk⟩; have HI2 := Aside0.mk hi; have HB2 := Aside0.mk hb; clear hi hb hk HI HB; have HI := HI2; have HB := HB2; clear HI2 HB2) | (go_at_call 37; ((with_reducible refine (pack_Reader_Err.calls _ l0 ra bad _ _ _ w1 _ (by repeat (first | (with_reducible first | exact HI.out | apply IsS102.alloc) | exact HI.out | (refine IsS102.far ?_ (by have := IsS102.lt HI.out; simp at this ⊢; omega) _))) (by repeat (first | (with_reducible first | exact HB.out | apply below_alloc) | exact HB.out | (refine below_set ?_ (by have := HB.out.size; simp at this ⊢; omega)))) rfl).mono ?_)); rintro e wr3 ⟨rfl, hi, hb, hk⟩; have HI2 := Aside0.mk hi; have HB2 := Aside0.mk hb; clear hi hb hk HI HB; have HI := HI2; have HB := HB2; clear HI2 HB2))
          go_roundg k1
          case measure => omega
          case rel => exact ⟨x8, bad, i + 1, ra, rfl, rfl, (by have := HX.out.1; rw [show wrap64 (i + 1) = i + 1 by unfold wrap64; omega]), ⟨by have := HX.out.1; omega, by have := HX.out.2.1; omega, fun e => absurd e HCB.out⟩, HI, HB⟩
    · have cib : decide (i < (l1.length : Int)) = false := decide_eq_false ci
      clear ci
      by_cases cb : bad = 0
      · subst cb
        obtain ⟨a, ha, rfl, rfl⟩ := HX.out.2.2 rfl
        have hw : wrap64 ((l0.length : Int) - (a : Int)) = (l0.length : Int) - (a : Int) := by unfold wrap64; omega
        by_cases cl : (a : Int) < (l0.length : Int)
        · have HD := Aside0.mk (show pack_Reader_Done.f l0 (a : Int) 0 = some (3, (a : Int), 0) by simp only [pack_Reader_Done.f, pack_Reader_Err.f, pack_Reader_left.f, Option.bind_some, if_true, hw]; rw [if_pos (by omega)])
          have clb : decide ((a : Int) < (l0.length : Int)) = true := decide_eq_true cl
          have clc : decide (a < l0.length) = true := decide_eq_true (by omega)
          clear cl hw
          go_wp2_with (first | (go_at_call 34; ((with_reducible refine (pack_Reader_Done.calls g l0 (a : Int) 0 3 (a : Int) 0 w1 _ HI.out HB.out HD.out).mono ?_)); rintro e wd ⟨rfl, hi, hb, hk⟩; have HI2 := Aside0.mk hi; have HB2 := Aside0.mk hb; clear hi hb hk HI HB; have HI := HI2; have HB := HB2; clear HI2 HB2) | (go_at_call 26; ((with_reducible refine (changeoverlaw04_awake.calls true _ rfl).mono ?_)); rintro e we ⟨rfl, hb⟩; have HB2 := Aside0.mk (below_step HB.out hb); clear hb HB; have HB := HB2; clear HB2))
          go_ret
          exact ⟨rfl, below_step HBQ.out HB.out⟩
        · have HD := Aside0.mk (show pack_Reader_Done.f l0 (a : Int) 0 = some (0, (a : Int), 0) by simp only [pack_Reader_Done.f, pack_Reader_Err.f, pack_Reader_left.f, Option.bind_some, if_true, hw]; rw [if_neg (by omega)])
          have clb : decide ((a : Int) < (l0.length : Int)) = false := decide_eq_false cl
          have clc : decide (a < l0.length) = false := decide_eq_false (by omega)
          clear cl hw
          go_wp2_with (first | (go_at_call 34; ((with_reducible refine (pack_Reader_Done.calls g l0 (a : Int) 0 0 (a : Int) 0 w1 _ HI.out HB.out HD.out).mono ?_)); rintro e wd ⟨rfl, hi, hb, hk⟩; have HI2 := Aside0.mk hi; have HB2 := Aside0.mk hb; clear hi hb hk HI HB; have HI := HI2; have HB := HB2; clear HI2 HB2) | (go_at_call 26; ((with_reducible refine (changeoverlaw04_awake.calls true _ rfl).mono ?_)); rintro e we ⟨rfl, hb⟩; have HB2 := Aside0.mk (below_step HB.out hb); clear hb HB; have HB := HB2; clear HB2))
          go_ret
          exact ⟨rfl, below_step HBQ.out HB.out⟩
      · have HD := Aside0.mk (show pack_Reader_Done.f l0 ra bad = some (bad, ra, bad) by simp only [pack_Reader_Done.f, pack_Reader_Err.f, Option.bind_some]; rw [if_neg cb])
        have cbb : (bad == 0) = false := beq_eq_false_iff_ne.mpr cb
        clear cb
        go_wp2_with (first | (go_at_call 34; ((with_reducible refine (pack_Reader_Done.calls g l0 ra bad bad ra bad w1 _ HI.out HB.out HD.out).mono ?_)); rintro e wd ⟨rfl, hi, hb, hk⟩; have HI2 := Aside0.mk hi; have HB2 := Aside0.mk hb; clear hi hb hk HI HB; have HI := HI2; have HB := HB2; clear HI2 HB2) | (go_at_call 26; ((with_reducible refine (changeoverlaw04_awake.calls true _ rfl).mono ?_)); rintro e we ⟨rfl, hb⟩; have HB2 := Aside0.mk (below_step HB.out hb); clear hb HB; have HB := HB2; clear HB2))
        go_ret
        exact ⟨rfl, below_step HBQ.out HB.out⟩

end Go.Proofs.Ytalpmbeddldfoaa.PA
