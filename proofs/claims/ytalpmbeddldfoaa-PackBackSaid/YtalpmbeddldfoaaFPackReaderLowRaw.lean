-- A text that a program wrote for this claim (print.py over stand-in bodies, tool/pr.sh).
import Derived.Test.YtalpmbeddldfoaaF0
import Derived.Test.YtalpmbeddldfoaaFPackNewReader
import Derived.Test.YtalpmbeddldfoaaFPackReaderLowCounted
import Derived.Test.YtalpmbeddldfoaaHandB
import Derived.Test.YtalpmbeddldfoaaHandS
namespace Go.Proofs.Ytalpmbeddldfoaa.PA
open Go.RowKit Go.Proofs.Ytalpmbeddldfoaa.Hand Go.Proofs.YtalpmbeddldfoaaW.PrintWords Go.Proofs.YtalpmbeddldfoaaW.PrintLast Go.Proofs.YtalpmbeddldfoaaW.PrintMore
attribute [local go_sem] max2_int min2_int max_two min_two max_three min_three max_four min_four   -- for this text's walks alone
attribute [local go_sem high] str_leq str_gtr str_geq
set_option linter.unusedVariables false
set_option linter.unusedSimpArgs false

/-! ### pack_Reader_raw: function 89 -/
def pack_Reader_raw.l0 : Nat → Int → List Int → Int → Int → List Int → Int → Int → Option (List Int × Int × Int)
  | 0, _, _, _, _, _, _, _ => none
  | k + 1, x5, x6, x7, x8, x1000, x1001, x1002 => if x8 < x5 then (if 0 ≤ (wrap64 (x7 + x8)) then (if (wrap64 (x7 + x8)) < (x1000.length : Int) then (if x6.length < 140737488355328 then (pack_Reader_raw.l0 k x5 (x6 ++ [rd x1000 (wrap64 (x7 + x8))]) x7 (wrap64 (x8 + 1)) x1000 x1001 x1002) else (none)) else (none)) else (none)) else (some (x6, wrap64 (x7 + x5), x1002))
def pack_Reader_raw.f (k : Nat) (s0_0 : List Int) (s0_1 : Int) (s0_2 : Int) (a1 : Int) : Option (List Int × Int × Int) := (pack_Reader_counted.f k s0_0 s0_1 s0_2 a1).bind fun bt886 => (if bt886.2.2 = 0 then (if bt886.1 < 0 then (if 0 ≤ (s0_0.length : Int) then (if (s0_0.length : Int) < (s0_0.length : Int) then (if (rd s0_0 (s0_0.length : Int)) = 0 then (some (([] : List Int), bt886.2.1, bt886.2.2)) else (some (([] : List Int), bt886.2.1, bt886.2.2))) else (none)) else (none)) else (if bt886.1 > 1099511627776 then (if 0 ≤ (s0_0.length : Int) then (if (s0_0.length : Int) < (s0_0.length : Int) then (if (rd s0_0 (s0_0.length : Int)) = 0 then (some (([] : List Int), bt886.2.1, bt886.2.2)) else (some (([] : List Int), bt886.2.1, bt886.2.2))) else (none)) else (none)) else (if bt886.2.1 < 0 then (if 0 ≤ (s0_0.length : Int) then (if (s0_0.length : Int) < (s0_0.length : Int) then (if (rd s0_0 (s0_0.length : Int)) = 0 then (some (([] : List Int), bt886.2.1, bt886.2.2)) else (some (([] : List Int), bt886.2.1, bt886.2.2))) else (none)) else (none)) else (if bt886.2.1 > (wrap64 ((s0_0.length : Int) - bt886.1)) then (if 0 ≤ (s0_0.length : Int) then (if (s0_0.length : Int) < (s0_0.length : Int) then (if (rd s0_0 (s0_0.length : Int)) = 0 then (some (([] : List Int), bt886.2.1, bt886.2.2)) else (some (([] : List Int), bt886.2.1, bt886.2.2))) else (none)) else (none)) else (pack_Reader_raw.l0 k bt886.1 ([] : List Int) bt886.2.1 0 s0_0 bt886.2.1 bt886.2.2))))) else (some (([] : List Int), bt886.2.1, bt886.2.2)))
theorem pack_Reader_raw.mono_l : ∀ k, (∀ y0 y1 y2 y3 y4 y5 y6, LeO (pack_Reader_raw.l0 k y0 y1 y2 y3 y4 y5 y6) (pack_Reader_raw.l0 (k + 1) y0 y1 y2 y3 y4 y5 y6))
  | 0 => fun _ _ _ _ _ _ _ r h => by simp [pack_Reader_raw.l0] at h
  | k + 1 => by
    have ih0 := pack_Reader_raw.mono_l k
    · intro y0 y1 y2 y3 y4 y5 y6
      unfold pack_Reader_raw.l0
      repeat' first
      | (with_reducible exact ih0 _ _ _ _ _ _ _)
      | (with_reducible exact pack_Reader_counted.mono _ _ _ _ _)
      | (with_reducible exact LeO.refl _)
      | (with_reducible exact LeO.none _)
      | (with_reducible refine LeO.ite ?_ ?_)
      | (with_reducible refine LeO.bind ?_ (fun _ => ?_))
      | exact ih0 _ _ _ _ _ _ _
      | exact pack_Reader_counted.mono _ _ _ _ _
      | exact LeO.none _
      | refine LeO.ite ?_ ?_
      | refine LeO.bind ?_ (fun _ => ?_)
theorem pack_Reader_raw.mono : ∀ a0 a1 a2 a3 k, LeO (pack_Reader_raw.f k a0 a1 a2 a3) (pack_Reader_raw.f (k + 1) a0 a1 a2 a3) := by
  intro a0 a1 a2 a3 k
  have ih0 := pack_Reader_raw.mono_l k
  unfold pack_Reader_raw.f
  repeat' first
      | (with_reducible exact ih0 _ _ _ _ _ _ _)
      | (with_reducible exact pack_Reader_counted.mono _ _ _ _ _)
      | (with_reducible exact LeO.refl _)
      | (with_reducible exact LeO.none _)
      | (with_reducible refine LeO.ite ?_ ?_)
      | (with_reducible refine LeO.bind ?_ (fun _ => ?_))
      | exact ih0 _ _ _ _ _ _ _
      | exact pack_Reader_counted.mono _ _ _ _ _
      | exact LeO.none _
      | refine LeO.ite ?_ ?_
      | refine LeO.bind ?_ (fun _ => ?_)
theorem raw_loop (bs : List Int) (n at_ : Int) (h0 : 0 ≤ at_) (h1 : 0 ≤ n) (h2 : at_ + n ≤ bs.length) (hm : bs.length ≤ 9223372036854775807) (x1 : Int) (r1 : List Int) (r2 r3 : Int) : ∀ (k : Nat) (out : List Int) (i : Int), 0 ≤ i → i ≤ n → out = (bs.take (at_ + i).toNat).drop at_.toNat → pack_Reader_raw.l0 k n out at_ i bs x1 0 = some (r1, r2, r3) → r1 = (bs.take (at_ + n).toNat).drop at_.toNat ∧ r2 = at_ + n ∧ r3 = 0
  | 0, out, i, _, _, _, h => by simp [pack_Reader_raw.l0] at h
  | k + 1, out, i, hi0, hi1, ho, h => by
    simp only [pack_Reader_raw.l0] at h
    by_cases c : i < n
    · have e1 : wrap64 (at_ + i) = at_ + i := by unfold wrap64; omega
      have e2 : wrap64 (i + 1) = i + 1 := by unfold wrap64; omega
      rw [if_pos c, e1, if_pos (by omega), if_pos (by omega), e2] at h
      split at h
      · refine raw_loop bs n at_ h0 h1 h2 hm x1 r1 r2 r3 k _ (i + 1) (by omega) (by omega) ?_ h
        subst ho
        have hl : (at_ + i).toNat < bs.length := by omega
        rw [show (at_ + (i + 1)).toNat = (at_ + i).toNat + 1 by omega, List.take_add_one, List.drop_append_of_le_length (by rw [List.length_take]; omega)]
        congr 1
        simp [rd, List.getD_eq_getElem?_getD, List.getElem?_eq_getElem hl]
      · cases h
    · obtain rfl : i = n := by omega
      have e1 : wrap64 (at_ + i) = at_ + i := by unfold wrap64; omega
      rw [if_neg c, e1] at h
      simp only [Option.some.injEq, Prod.mk.injEq] at h
      obtain ⟨rfl, rfl, rfl⟩ := h
      exact ⟨ho, rfl, rfl⟩
set_option maxHeartbeats 8000000 in
set_option maxRecDepth 100000 in
theorem pack_Reader_raw.calls (k : Nat) (g : Nat) (s0_0 : List Int) (s0_1 : Int) (s0_2 : Int) (a1 : Int) (r1 : List Int) (r2 : Int) (r3 : Int) (w0 w : World) (hI : IsS102 w0 w g s0_0 s0_1 s0_2) (hB : Below w0.heap.size w0 w) (h : pack_Reader_raw.f k s0_0 s0_1 s0_2 a1 = some (r1, r2, r3)) :
    Calls Try.prog 89 #[.pointer (some ⟨g, 0, none⟩), .int .i64 a1] w fun e w' => ∃ v0_ : Value, e = .returned (v0_) ∧ Kd.R (Kd.int .u8) 5 w' w.heap.size (fun _ => True) v0_ r1 ∧ IsS102 w0 w' g s0_0 r2 r3 ∧ Below w0.heap.size w0 w' ∧ KeepBut w w' g none := by
  rw [pack_Reader_raw.f] at h
  obtain ⟨⟨n, q2, q3⟩, hq, h⟩ := Option.bind_eq_some_iff.mp h
  have HI := Aside0.mk hI
  have HB := Aside0.mk hB
  have HQ := Aside0.mk hq
  simp only [] at h
  by_cases c : q3 = 0
  · subst c
    rw [if_pos rfl] at h
    obtain ⟨hI0⟩ : Nonempty (PLift (s0_0.length ≤ 9223372036854775807)) := by
      obtain ⟨A0, c0, hb, hg, hr⟩ := hI
      exact ⟨⟨Kd.C_max hr.1⟩⟩
    have hI1 := hI0.down
    have hnn : ¬ ((s0_0.length : Int) < (s0_0.length : Int)) := by omega
    simp only [hnn, if_false, ite_self] at h
    split at h
    · cases h
    rename_i c1
    split at h
    · cases h
    rename_i c2
    split at h
    · cases h
    rename_i c3
    split at h
    · cases h
    rename_i c4
    have e1 : wrap64 ((s0_0.length : Int) - n) = (s0_0.length : Int) - n := by unfold wrap64; omega
    rw [e1] at c4
    obtain ⟨hr1, hr2, rfl⟩ := raw_loop s0_0 n q2 (by omega) (by omega) (by omega) (by omega) q2 r1 r2 r3 k [] 0 (by omega) (by omega) (by simp) h
    clear h e1 hnn
    have hq2 : 0 ≤ q2 := by omega
    have hn0 : 0 ≤ n := by omega
    have hle : q2 + n ≤ (s0_0.length : Int) := by omega
    have hn2 : n ≤ 1099511627776 := by omega
    clear c1 c2 c3 c4
    subst hr1
    subst hr2
    have w1 : wrap64 (q2 + n) = q2 + n := by unfold wrap64; omega
    have w2 : wrap64 (q2 + n - n) = q2 := by unfold wrap64; omega
    have hll : ((s0_0.take (q2 + n).toNat).drop q2.toNat).length = n.toNat := by simp; omega
    have HCl := Aside0.mk (show slices_Clone_byte_byte.f ((s0_0.take (q2 + n).toNat).drop q2.toNat) = some ((s0_0.take (q2 + n).toNat).drop q2.toNat) by simp only [slices_Clone_byte_byte.f, Option.bind_some, List.length_nil, Nat.zero_add, List.nil_append]; rw [if_pos (by rw [hll]; omega)])
    have HF := Aside0.mk (And.intro hq2 (And.intro hn0 (And.intro hle (And.intro w1 (And.intro w2 hll)))))
    clear hI hB hq hI0 hI1 hq2 hn0 hle w1 w2 hll hn2
    go_enter Try.func89, Try.ntmps89
    go_wp2_with (go_at_call 91; ((with_reducible refine (pack_Reader_counted.calls k g s0_0 s0_1 s0_2 a1 n q2 0 w0 _ HI.out HB.out HQ.out).mono ?_)); rintro e w2 ⟨rfl, hi, hb, hk⟩; have HI2 := Aside0.mk hi; have HB2 := Aside0.mk hb; have HK := Aside0.mk hk; obtain ⟨A1, c1, hb, hg, hr⟩ := hi; have y0 := cellS102_0 hb; have y1 := cellS102_1 hb; have y2 := cellS102_2 hb; have z1 := blk_frozen hb 1; clear hb hg hr hk)
    obtain ⟨hq2, hn0, hle, w1, w2', hll⟩ := HF.out
    have w1' : IntKind.i64.wrap (q2 + n) = q2 + n := (i64_w _).trans w1
    simp only [w1, w1']
    generalize hW : w2.setCell ⟨g, 1, none⟩ (.int .i64 (q2 + n)) = W3
    have HI3 := Aside0.mk (show IsS102 w0 W3 g s0_0 (q2 + n) 0 by rw [← hW]; exact IsS102.set_1 HI2.out _)
    have HB3 := Aside0.mk (show Below w0.heap.size w0 W3 by rw [← hW]; exact below_set HB2.out (IsS102.ge HI2.out))
    have HK3 := Aside0.mk (show KeepBut w W3 g none by rw [← hW]; exact KeepBut.set_ HK.out _ _)
    clear hW y0 y1 y2 z1
    obtain ⟨A1, c1, hb, hg, hr, hc⟩ := HI3.out
    have y0 := cellS102_0 hb
    have y1 := cellS102_1 hb
    obtain ⟨i1, hi1, hz1, hs1, hb1⟩ := info_parts info5
    have hcut := cut_mid (P := Try.prog) 35 5 .i64 .i64 Try.underlying35 hi1 1 hs1 A1 s0_0.length c1 q2 (q2 + n) hq2 (by omega) hle hc
    have HR := Aside0.mk (show Kd.C (Kd.int .u8) w0 (if c1 = q2.toNat then A1 else Option.map (fun x => x.add q2.toNat) A1) ((s0_0.take (q2 + n).toNat).drop q2.toNat).length ((s0_0.take (q2 + n).toNat).drop q2.toNat) from by
      have := Kd.C_mid (lo := q2.toNat) (hi := (q2 + n).toNat) hr (by omega) (by omega) hc
      have e6 : (Kd.int IntKind.u8).sz = 1 := rfl
      rw [e6, Nat.mul_one] at this
      exact this)
    have HM := Aside0.mk (show c1 - q2.toNat ≥ n.toNat by omega)
    have e5 : (q2 + n).toNat - q2.toNat = n.toNat := by omega
    rw [e5] at hcut
    have w2'' : IntKind.i64.wrap (q2 + n - n) = q2 := (i64_w _).trans w2'
    have w3 : IntKind.i64.wrap q2 = q2 := by rw [show q2 = q2 + n - n by omega, w2'']; omega
    have hb0 : 0 ≤ q2 + n := by omega
    have hl0 := hll
    rw [← hll] at HM
    rw [← hll] at hcut
    obtain ⟨L, hL⟩ : ∃ L, (s0_0.take (q2 + n).toNat).drop q2.toNat = L := ⟨_, rfl⟩
    rw [hL] at HR HM hcut HCl
    have HL := Aside0.mk hL
    simp only [Nat.mul_one] at hcut
    obtain ⟨A2, hA2⟩ : ∃ A2, (if c1 = q2.toNat then A1 else Option.map (fun x => x.add q2.toNat) A1) = A2 := ⟨_, rfl⟩
    rw [hA2] at HR hcut
    clear hA2
    clear hL
    clear hb hg hr hc hi1 hz1 hs1 hb1 hll e5 hl0 HF
    go_still_tail 15, (by kernel_rfl)
    change wpList _ _ _ _ _ W3.drew
    have HB4 := Aside0.mk (below_drew1 HB3.out)
    clear hcut y0 y1 w2'' w3 w1'
    go_wp2_with (go_at_call 78; ((with_reducible refine (slices_Clone_byte_byte.calls _ _ _ _ _ (Kd.C_below HR.out HB4.out) HM.out HCl.out).mono ?_)); rintro e w5 ⟨v0, rfl, hv, hb5⟩; have HV := Aside0.mk hv; have HB5 := Aside0.mk hb5; clear hv hb5)
    go_ret
    refine ⟨_, rfl, (by rw [HL.out]; exact Kd.R_lower HV.out HK3.out.1), HI3.out.drew.below HB5.out, below_weaken HB4.out HB4.out.size HB5.out, ?_⟩
    exact KeepBut.trans (keep_drew HK3.out) (KeepBut.of_below HB5.out g none) (.inl rfl)
  · rw [if_neg c] at h
    obtain ⟨rfl, rfl, rfl⟩ : [] = r1 ∧ q2 = r2 ∧ q3 = r3 := by simpa using h
    have cb : (q3 != 0) = true := bne_iff_ne.mpr c
    have cb2 : (q3 == 0) = false := beq_eq_false_iff_ne.mpr c
    clear c h hq hI hB
    go_enter Try.func89, Try.ntmps89
    go_wp2_with (go_at_call 91; ((with_reducible refine (pack_Reader_counted.calls k g s0_0 s0_1 s0_2 a1 n q2 q3 w0 _ HI.out HB.out HQ.out).mono ?_)); rintro e w2 ⟨rfl, hi, hb, hk⟩; have HI2 := Aside0.mk hi; have HB2 := Aside0.mk hb; have HK := Aside0.mk hk; obtain ⟨A1, c1, hb, hg, hr⟩ := hi; have y2 := cellS102_2 hb; clear hb hg hr hk)
    go_ret
    exact ⟨_, rfl, Kd.R_nil _ _ _ _ _, HI2.out, HB2.out, HK.out⟩
end Go.Proofs.Ytalpmbeddldfoaa.PA
