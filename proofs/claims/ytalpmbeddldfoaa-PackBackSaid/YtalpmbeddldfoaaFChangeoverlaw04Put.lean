-- A text that a program wrote for this claim (print.py over stand-in bodies, tool/pr.sh).
import Derived.Test.YtalpmbeddldfoaaF0
import Derived.Test.YtalpmbeddldfoaaFChangeoverref04Bytes
import Derived.Test.YtalpmbeddldfoaaHandWr
import Derived.Test.YtalpmbeddldfoaaHandPut
namespace Go.Proofs.Ytalpmbeddldfoaa.PA
open Go.RowKit Go.Proofs.Ytalpmbeddldfoaa.Hand Go.Proofs.YtalpmbeddldfoaaW.PrintWords Go.Proofs.YtalpmbeddldfoaaW.PrintLast Go.Proofs.YtalpmbeddldfoaaW.PrintMore
attribute [local go_sem] max2_int min2_int max_two min_two max_three min_three max_four min_four   -- for this text's walks alone
attribute [local go_sem high] str_leq str_gtr str_geq
set_option linter.unusedVariables false
set_option linter.unusedSimpArgs false

/-! ### changeoverlaw04_put: function 28 -/
def changeoverlaw04_put.l0 : Nat → List (S40) → Int → Option (List Int)
  | 0, _, _ => none
  | k + 1, x0, x3 => if x3 < (x0.length : Int) then (if 0 ≤ x3 then (if ((rd_T40 x0 x3).f1) > 9223372036854775807 then (if 0 ≤ (x0.length : Int) then (if (x0.length : Int) < (x0.length : Int) then (if (rd_T40 x0 (x0.length : Int)).f3 = true then (some ([] : List Int)) else (some ([] : List Int))) else (none)) else (none)) else (changeoverlaw04_put.l0 k x0 (wrap64 (x3 + 1)))) else (none)) else ((changeoverref04_Bytes.f k x0).bind fun t834 => (some t834))
def changeoverlaw04_put.f (k : Nat) (l0 : List (S40)) : Option (List Int) := changeoverlaw04_put.l0 k l0 0
theorem changeoverlaw04_put.mono_l : ∀ k, (∀ y0 y1, LeO (changeoverlaw04_put.l0 k y0 y1) (changeoverlaw04_put.l0 (k + 1) y0 y1))
  | 0 => fun _ _ r h => by simp [changeoverlaw04_put.l0] at h
  | k + 1 => by
    have ih0 := changeoverlaw04_put.mono_l k
    · intro y0 y1
      unfold changeoverlaw04_put.l0
      repeat' first
      | (with_reducible exact ih0 _ _)
      | (with_reducible exact changeoverref04_Bytes.mono _ _)
      | (with_reducible exact LeO.refl _)
      | (with_reducible exact LeO.none _)
      | (with_reducible refine LeO.ite ?_ ?_)
      | (with_reducible refine LeO.bind ?_ (fun _ => ?_))
      | exact ih0 _ _
      | exact changeoverref04_Bytes.mono _ _
      | exact LeO.none _
      | refine LeO.ite ?_ ?_
      | refine LeO.bind ?_ (fun _ => ?_)
theorem changeoverlaw04_put.mono : ∀ a0 k, LeO (changeoverlaw04_put.f k a0) (changeoverlaw04_put.f (k + 1) a0) := by
  intro a0 k
  have ih0 := changeoverlaw04_put.mono_l k
  unfold changeoverlaw04_put.f
  repeat' first
      | (with_reducible exact ih0 _ _)
      | (with_reducible exact changeoverref04_Bytes.mono _ _)
      | (with_reducible exact LeO.refl _)
      | (with_reducible exact LeO.none _)
      | (with_reducible refine LeO.ite ?_ ?_)
      | (with_reducible refine LeO.bind ?_ (fun _ => ?_))
      | exact ih0 _ _
      | exact changeoverref04_Bytes.mono _ _
      | exact LeO.none _
      | refine LeO.ite ?_ ?_
      | refine LeO.bind ?_ (fun _ => ?_)
theorem put_guard (l : List S40) (hm : l.length ≤ 9223372036854775807) : ∀ (k : Nat) (i : Nat) (r : List Int), changeoverlaw04_put.l0 k l (i : Int) = some r → (∃ k', k' ≤ k ∧ changeoverref04_Bytes.f k' l = some r) ∧ ∀ j : Nat, i ≤ j → j < l.length → (rd_T40 l j).f1 ≤ 9223372036854775807
  | 0, i, r, h => by simp [changeoverlaw04_put.l0] at h
  | k + 1, i, r, h => by
    have hnn : ¬ ((l.length : Int) < (l.length : Int)) := by omega
    simp only [changeoverlaw04_put.l0, hnn, if_false, ite_self] at h
    by_cases c : (i : Int) < (l.length : Int)
    · rw [if_pos c, if_pos (by omega)] at h
      split at h
      · cases h
      rename_i c2
      rw [show wrap64 ((i : Int) + 1) = ((i + 1 : Nat) : Int) by unfold wrap64; omega] at h
      obtain ⟨⟨k', i1, i1'⟩, i2⟩ := put_guard l hm k (i + 1) r h
      refine ⟨⟨k', by omega, i1'⟩, fun j hj hl => ?_⟩
      by_cases e : j = i
      · subst e; omega
      · exact i2 j (by omega) hl
    · rw [if_neg c] at h
      obtain ⟨t, ht, h⟩ := Option.bind_eq_some_iff.mp h
      simp only [Option.some.injEq] at h
      subst h
      exact ⟨⟨k, by omega, ht⟩, fun j hj hl => by omega⟩
set_option maxHeartbeats 8000000 in
set_option maxRecDepth 100000 in
theorem changeoverlaw04_put.calls (k : Nat) (A0 : Option Addr) (c0 : Nat) (l0 : List (S40)) (r : List Int) (w : World) (hr0 : Kd.C k40 w A0 l0.length l0) (hc0 : l0.length ≤ c0) (h : changeoverlaw04_put.f k l0 = some r) :
    Calls Try.prog 28 #[.slice A0 l0.length c0] w fun e w' => ∃ v0_ : Value, e = .returned (v0_) ∧ Kd.R (Kd.int .u8) 5 w' w.heap.size (fun _ => True) v0_ r ∧ Below w.heap.size w w' := by
  have hm := Kd.C_max hr0
  obtain ⟨⟨k', _, hf⟩, hall⟩ := put_guard l0 hm k 0 r h
  have HR0 := Aside0.mk hr0
  have HC0 := Aside0.mk hc0
  have HA := Aside0.mk hall
  have HM := Aside0.mk hm
  have H' := Aside0.mk (show changeoverref04_Bytes.l0 k' l0 [] 0 = some r from hf)
  have HB := Aside0.mk ((Below.refl w.heap.size w).alloc (Nat.le_refl _) (.cells #[.slice none 0 0] 97))
  have HW := Aside0.mk (WR.new w w.heap.size (Nat.le_refl _))
  clear hr0 hc0 h hf hall hm
  go_enter Try.func28, Try.ntmps28
  go_wp2
  go_loopg [4] k' (fun kq v4 w' => ∃ (i : Int) (bs : List Int), v4 = .int .i64 i ∧ Aside0 (changeoverref04_Bytes.l0 kq l0 bs i = some r) ∧ Aside0 (kq ≤ k') ∧ Aside0 (0 ≤ i ∧ bs.length < 140737488355328) ∧ Aside0 (Below w.heap.size w w') ∧ Aside0 (WR w.heap.size w' w.heap.size bs))
  case atStart => exact ⟨0, [], by simp, H', ⟨Nat.le_refl _⟩, ⟨Int.le_refl _, by simp⟩, HB, HW⟩
  case round =>
    clear H' HB HW
    obtain ⟨i, bs, rfl, HA1, HK1, HI, HB, HW⟩ := hrel
    cases gk with
    | zero => exact absurd HA1.out (by simp [changeoverref04_Bytes.l0])
    | succ k1 =>
      have H := HA1.out
      clear HA1
      simp only [changeoverref04_Bytes.l0] at H
      by_cases c : i < (l0.length : Int)
      · have c0i := HI.out.1
        have e1 : wrap64 (i + 1) = i + 1 := by have := HM.out; unfold wrap64; omega
        rw [if_pos c, if_pos c0i, e1] at H
        obtain ⟨ad, e, hx0, hx1, hx2, hx3⟩ := at_T40 HR0.out i c0i c
        cases e
        replace hx0 := (HB.out.cell (World.block_lt_of_cell? w _ hx0)).trans hx0
        replace hx1 := (HB.out.cell (World.block_lt_of_cell? w _ hx1)).trans hx1
        replace hx2 := (HB.out.cell (World.block_lt_of_cell? w _ hx2)).trans hx2
        replace hx3 := (HB.out.cell (World.block_lt_of_cell? w _ hx3)).trans hx3
        have cb : decide (i < (l0.length : Int)) = true := decide_eq_true c
        have HN := Aside0.mk (show (rd_T40 l0 i).f1 ≤ 9223372036854775807 by
          have := HA.out i.toNat (Nat.zero_le _) (by omega)
          rwa [Int.toNat_of_nonneg c0i] at this)
        have HE := Aside0.mk e1
        have him : i + 1 ≤ 9223372036854775807 := by have := HM.out; omega
        replace c := eq_true c
        replace c0i := eq_true c0i
        clear e1
        by_cases c1 : (rd_T40 l0 i).f0 = 1
        · rw [if_pos c1] at H
          obtain ⟨t, ht, H⟩ := Option.bind_eq_some_iff.mp H
          split at H
          · rename_i hlen
            have HP := Aside0.mk (put_of_ref k1 _ bs t HN.out ht hlen)
            have HH := Aside0.mk H
            have HL := Aside0.mk hlen
            have c1b : ((rd_T40 l0 i).f0 == 1) = true := beq_iff_eq.mpr c1
            clear H c1 ht hlen
            go_wp2_with (go_at_call 38; ((with_reducible refine (wr_number k1 _ _ bs _ _ _ HW.out HB.out.size HP.out).mono ?_)); rintro e w2 ⟨rfl, hv, hg⟩; have HV := Aside0.mk hv; have HG := Aside0.mk (HB.out.grown hg HB.out.size (fun k e => by cases e; exact Nat.le_refl _)); clear hv hg)
            go_roundg k1
            case measure => have := HK1.out; omega
            case rel => exact ⟨i + 1, bs ++ t, (by first | rfl | rw [HE.out]), HH, ⟨by have := HK1.out; omega⟩, ⟨by have := HI.out.1; omega, by rw [List.length_append]; exact HL.out⟩, HG, HV⟩
          · cases H
        rw [if_neg c1] at H
        have c1b : ((rd_T40 l0 i).f0 == 1) = false := beq_eq_false_iff_ne.mpr c1
        by_cases c2 : (rd_T40 l0 i).f0 = 2
        · rw [if_pos c2] at H
          obtain ⟨t0, ht0, H⟩ := Option.bind_eq_some_iff.mp H
          split at H
          · rename_i hlen
            rw [changeoverref04_Text.f] at ht0
            obtain ⟨t, ht, ht0⟩ := Option.bind_eq_some_iff.mp ht0
            split at ht0
            · rename_i hlen0
              obtain rfl := Option.some.inj ht0
              rw [List.length_append, bytesOf_length] at hlen
              have HP := Aside0.mk (put_of_ref k1 _ bs t (by omega) ht (by omega))
              have HH := Aside0.mk H
              have HL := Aside0.mk hlen
              have c2b : ((rd_T40 l0 i).f0 == 2) = true := beq_iff_eq.mpr c2
              clear H c1 c2 ht ht0 hlen hlen0
              by_cases c3 : Int.tmod i 2 = 0
              · have c3b : (Int.tmod i 2 == 0) = true := beq_iff_eq.mpr c3
                clear c3
                go_wp2_with (go_at_call 39; ((with_reducible refine (wr_text k1 _ _ bs _ _ _ HW.out HB.out.size (by have := HL.out; omega) HP.out (by have := HL.out; rw [List.length_append]; omega)).mono ?_)); rintro e w2 ⟨rfl, hv, hg⟩; have HV := Aside0.mk hv; have HG := Aside0.mk (HB.out.grown hg HB.out.size (fun k e => by cases e; exact Nat.le_refl _)); clear hv hg)
                go_roundg k1
                case measure => have := HK1.out; omega
                case rel => exact ⟨i + 1, bs ++ (t ++ bytesOf (rd_T40 l0 i).f2), (by first | rfl | rw [HE.out]), HH, ⟨by have := HK1.out; omega⟩, ⟨by have := HI.out.1; omega, by rw [List.length_append, List.length_append, bytesOf_length]; exact HL.out⟩, HG, ⟨by rw [← List.append_assoc]; exact HV.out⟩⟩
              · have c3b : (Int.tmod i 2 == 0) = false := beq_eq_false_iff_ne.mpr c3
                clear c3
                generalize (rd_T40 l0 i).f2 = s at hx2 HL HH HP
                have hs : s.size ≤ 9223372036854775807 := by have := HL.out; omega
                have hBl : Below wr.heap.size wr (Lib.bytesWorld wr 5 s) := bytes_below (Below.refl _ _) (Nat.le_refl _) _ s
                have HW1 := Aside0.mk (HW.out.below hBl)
                have HB1 := Aside0.mk (below_step HB.out hBl)
                have HR := Aside0.mk (show Kd.C (Kd.int .u8) (Lib.bytesWorld wr 5 s) (some ⟨wr.heap.size, 0, none⟩) s.size (bytesOf s) from Kd.C_of_reads (enc := Value.int .u8) (d := (0 : Int)) (h1 := fun _ => rfl) (bytes_reads wr 5 s hs))
                have hcap : s.size ≤ grownCap wr s.size 0 5 := grownCap_ge wr s.size 0 _
                have hrun := print_bytes (P := Try.prog) 9 35 5 Try.underlying9 Try.underlying35 Try.underlying5 s wr
                have hbl : (bytesOf s).length = s.size := bytesOf_length s
                generalize grownCap wr s.size 0 5 = c1 at hcap hrun
                generalize Lib.bytesWorld wr 5 s = W1 at HW1 HB1 HR hrun
                rw [← hbl] at hrun hcap HR HP HL
                have HC := Aside0.mk hcap
                clear hs hBl hbl hcap
                generalize bytesOf s = ll at *
                go_wp2_with (go_at_call 41; ((with_reducible refine (wr_raw k1 _ _ bs _ ll _ c1 _ HW1.out HB1.out.size HR.out HC.out HP.out (by have := HL.out; rw [List.length_append]; omega)).mono ?_)); rintro e w2 ⟨rfl, hv, hg⟩; have HV := Aside0.mk hv; have HG := Aside0.mk (HB1.out.grown hg HB1.out.size (fun k e => by cases e; exact Nat.le_refl _)); clear hv hg)
                go_roundg k1
                case measure => have := HK1.out; omega
                case rel => exact ⟨i + 1, bs ++ (t ++ ll), (by first | rfl | rw [HE.out]), HH, ⟨by have := HK1.out; omega⟩, ⟨by have := HI.out.1; omega, by rw [List.length_append, List.length_append]; exact HL.out⟩, HG, ⟨by rw [← List.append_assoc]; exact HV.out⟩⟩
            · cases ht0
          · cases H
        rw [if_neg c2] at H
        have c2b : ((rd_T40 l0 i).f0 == 2) = false := beq_eq_false_iff_ne.mpr c2
        by_cases c3 : (rd_T40 l0 i).f0 = 3
        · rw [if_pos c3] at H
          obtain ⟨t, ht, H⟩ := Option.bind_eq_some_iff.mp H
          split at H
          · rename_i hlen
            have c3b : ((rd_T40 l0 i).f0 == 3) = true := beq_iff_eq.mpr c3
            have hp : varint_Put.f 1 bs (if (rd_T40 l0 i).f3 then 1 else 0) = some (bs ++ t) := by
              have hb := HI.out.2
              have hcl : slices_Clone_byte_byte.f bs = some bs := by simp [slices_Clone_byte_byte.f]; omega
              rw [changeoverref04_Flag.f] at ht
              rw [varint_Put.f, hcl, Option.bind_some]
              cases hf : (rd_T40 l0 i).f3 with
              | true =>
                rw [hf, if_pos rfl] at ht
                obtain rfl := Option.some.inj ht
                simp only [if_true]
                rw [show mx 1 0 = 1 by unfold mx; rw [if_neg (by decide)]]
                simp only [varint_Put.l0]
                rw [if_neg (by decide), if_pos hb]
                rfl
              | false =>
                rw [hf, if_neg (by decide)] at ht
                obtain rfl := Option.some.inj ht
                simp only [Bool.false_eq_true, if_false]
                rw [show mx 0 0 = 0 by unfold mx; rw [if_neg (by decide)]]
                simp only [varint_Put.l0]
                rw [if_neg (by decide), if_pos hb]
                rfl
            have HP := Aside0.mk hp
            have HH := Aside0.mk H
            have HL := Aside0.mk hlen
            clear H c1 c2 c3 ht hlen hp
            go_wp2_with (go_at_call 40; ((with_reducible refine (wr_flag 1 _ _ bs _ _ _ HW.out HB.out.size HP.out).mono ?_)); rintro e w2 ⟨rfl, hv, hg⟩; have HV := Aside0.mk hv; have HG := Aside0.mk (HB.out.grown hg HB.out.size (fun k e => by cases e; exact Nat.le_refl _)); clear hv hg)
            go_roundg k1
            case measure => have := HK1.out; omega
            case rel => exact ⟨i + 1, bs ++ t, (by first | rfl | rw [HE.out]), HH, ⟨by have := HK1.out; omega⟩, ⟨by have := HI.out.1; omega, by rw [List.length_append]; exact HL.out⟩, HG, HV⟩
          · cases H
        · rw [if_neg c3] at H
          have c3b : ((rd_T40 l0 i).f0 == 3) = false := beq_eq_false_iff_ne.mpr c3
          have HH := Aside0.mk H
          clear H c1 c2 c3
          go_wp2
          go_roundg k1
          case measure => have := HK1.out; omega
          case rel => exact ⟨i + 1, bs, (by first | rfl | rw [HE.out]), HH, ⟨by have := HK1.out; omega⟩, ⟨by have := HI.out.1; omega, HI.out.2⟩, HB, HW⟩
      · rw [if_neg c] at H
        obtain rfl := Option.some.inj H
        have cb : decide (i < (l0.length : Int)) = false := decide_eq_false c
        clear c H
        go_wp2_with (go_at_call 42; ((with_reducible refine (wr_bytes _ _ bs _ HW.out HI.out.2).mono ?_)); rintro e w2 ⟨v0, rfl, hv, hb2⟩; have HV := Aside0.mk hv; have HG := Aside0.mk hb2; clear hv hb2)
        go_ret
        exact ⟨_, rfl, Kd.R_lower HV.out HB.out.size, below_step HB.out HG.out⟩
end Go.Proofs.Ytalpmbeddldfoaa.PA
