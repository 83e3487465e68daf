/- What a reader tells, in plain lists. -/
import Derived.Test.YtalpmbeddldfoaaPGet
import Derived.Test.YtalpmbeddldfoaaFPackReaderNumber
import Derived.Test.YtalpmbeddldfoaaFPackReaderCount
import Derived.Test.YtalpmbeddldfoaaFPackReaderText
import Derived.Test.YtalpmbeddldfoaaFPackReaderFlag
import Derived.Test.YtalpmbeddldfoaaFPackReaderDone
set_option linter.unusedVariables false
set_option linter.unusedSimpArgs false
namespace Go.Proofs.Ytalpmbeddldfoaa.PA
open Go.RowKit Go.IntWalk Go.Proofs.YtalpmbeddldfoaaW.PrintWords Go.Proofs.Ytalpmbeddldfoaa.Hand
theorem lim_fwd (most at_ s2 : Int) (bs : List Int) : ∀ (k : Nat) (n p i a b e : Int), varint_Get.l0 k bs at_ n p i = some (a, b, e) →
    pack_Reader_limited.l0 k most n p i bs at_ s2 = some (if e = 0 then (a, b, if most < a then 2 else s2) else (0, 0, e))
  | 0, n, p, i, a, b, e, h => by simp [varint_Get.l0] at h
  | k + 1, n, p, i, a, b, e, h => by
    have hnn : ¬ ((bs.length : Int) < (bs.length : Int)) := by omega
    simp only [varint_Get.l0, hnn, if_false, ite_self] at h
    simp only [pack_Reader_limited.l0, hnn, if_false, ite_self]
    by_cases c1 : i < (bs.length : Int)
    · rw [if_pos c1] at h ⊢
      by_cases c2 : 0 ≤ i
      · rw [if_pos c2] at h ⊢
        by_cases c3 : rd bs i < 0
        · rw [if_pos c3] at h; cases h
        rw [if_neg c3] at h ⊢
        by_cases c4 : rd bs i > 255
        · rw [if_pos c4] at h; cases h
        rw [if_neg c4] at h ⊢
        by_cases c5 : wrap64 (rd bs i) = 0
        · rw [if_pos c5] at h ⊢
          by_cases c6 : i > at_
          · rw [if_pos c6] at h ⊢
            simp only [Option.some.injEq, Prod.mk.injEq] at h
            obtain ⟨rfl, rfl, rfl⟩ := h
            rfl
          · rw [if_neg c6] at h ⊢
            simp only [Option.some.injEq, Prod.mk.injEq] at h
            obtain ⟨rfl, rfl, rfl⟩ := h
            by_cases c7 : most < 0
            · rw [if_pos c7, if_pos rfl, if_pos c7]
            · rw [if_neg c7, if_pos rfl, if_neg c7]
        · rw [if_neg c5] at h ⊢
          by_cases c6 : wrap64 (i - at_) > 8
          · rw [if_pos c6] at h ⊢
            simp only [Option.some.injEq, Prod.mk.injEq] at h
            obtain ⟨rfl, rfl, rfl⟩ := h
            rfl
          · rw [if_neg c6] at h ⊢
            by_cases c7 : wrap64 (rd bs i) < 128
            · rw [if_pos c7] at h ⊢
              simp only [Option.some.injEq, Prod.mk.injEq] at h
              obtain ⟨rfl, rfl, rfl⟩ := h
              by_cases c8 : wrap64 (n + wrap64 (p * wrap64 (rd bs i))) > most
              · rw [if_pos c8, if_pos rfl, if_pos c8]
              · rw [if_neg c8, if_pos rfl, if_neg c8]
            · rw [if_neg c7] at h ⊢
              exact lim_fwd most at_ s2 bs k _ _ _ a b e h
      · rw [if_neg c2] at h; cases h
    · rw [if_neg c1] at h ⊢
      simp only [Option.some.injEq, Prod.mk.injEq] at h
      obtain ⟨rfl, rfl, rfl⟩ := h
      rfl
def limS (bs : List Int) (at_ : Nat) (most : Int) : Int × Int × Int := if (getS bs at_).2.2 = 0 then ((getS bs at_).1, (getS bs at_).2.1, if most < (getS bs at_).1 then 2 else 0) else (0, 0, (getS bs at_).2.2)
def cntS (bs : List Int) (at_ : Nat) (most : Int) : Int × Int × Int := if (limS bs at_ most).2.2 = 0 ∧ (limS bs at_ most).1 > (bs.length : Int) - (limS bs at_ most).2.1 then ((limS bs at_ most).1, (limS bs at_ most).2.1, 1) else limS bs at_ most
/-- Bytes that a reader may have. -/
structure Okb (bs : List Int) (at_ : Nat) : Prop where
  byt : Byt bs
  len : bs.length ≤ 1099511627776
  le : at_ ≤ bs.length
theorem byt_drop {l : List Int} (h : Byt l) (n : Nat) : Byt (l.drop n) := fun x hx => h x (List.mem_of_mem_drop hx)
theorem getS_cases {bs : List Int} {at_ : Nat} (h : Okb bs at_) : (∃ e : Int, 0 < e ∧ getS bs at_ = (0, 0, e)) ∨ (∃ (x a : Nat), getS bs at_ = ((x : Int), (a : Int), 0) ∧ x ≤ 9223372036854775807 ∧ at_ < a ∧ a ≤ bs.length ∧ (bs.drop at_).take (a - at_) = vb x) := by
  unfold getS
  have he := vg_err (bs.drop at_) 0 0
  generalize hv : vg (bs.drop at_) 0 0 = r at he
  obtain ⟨n, m, e⟩ := r
  by_cases c : e = 0
  · subst c
    obtain ⟨i1, i2, i3, i4, x, i5, i6, i7⟩ := vg_ok (bs.drop at_) (byt_drop h.byt _) 0 0 (by decide) (by decide) (fun _ => by decide) n m hv
    rw [List.length_drop] at i4
    have hle := h.le
    have hn : n = x := by rw [i5]; simp
    refine .inr ⟨x, at_ + m, ?_, by omega, by omega, by omega, ?_⟩
    · simp [fin, hn]
    · rw [show at_ + m - at_ = m - 0 by omega, i7]
  · have hne : e ≠ 0 := c
    refine .inl ⟨e, by simp only at he; omega, ?_⟩
    simp [fin, c]
theorem limited_ev {bs : List Int} {at_ : Nat} (h : Okb bs at_) (most : Int) : Ev (fun k => pack_Reader_limited.f k bs (at_ : Int) 0 most) (limS bs at_ most) := by
  have hl := h.len
  have hle := h.le
  obtain ⟨K, hK⟩ := get_loop bs h.byt (by omega) at_ bs.length 0 0 1 (by omega) (by omega) (by omega) (by omega) (fun _ => by decide) (fun _ => by rfl)
  refine ⟨K, fun k hk => ?_⟩
  have h1 := hK k hk
  rw [Nat.add_zero] at h1
  have h2 := lim_fwd most (at_ : Int) 0 bs k 0 1 (at_ : Int) _ _ _ h1
  show pack_Reader_limited.f k bs (at_ : Int) 0 most = _
  unfold pack_Reader_limited.f
  rw [if_neg (by omega), if_neg (by omega), h2]
  rfl
theorem counted_ev {bs : List Int} {at_ : Nat} (h : Okb bs at_) (most : Int) : Ev (fun k => pack_Reader_counted.f k bs (at_ : Int) 0 most) (cntS bs at_ most) := by
  have hl := h.len
  unfold pack_Reader_counted.f
  refine (limited_ev h most).bind ?_
  have hc : (limS bs at_ most).2.2 = 0 → wrap64 ((bs.length : Int) - (limS bs at_ most).2.1) = (bs.length : Int) - (limS bs at_ most).2.1 := by
    intro h0
    rcases getS_cases h with ⟨e, he, hg⟩ | ⟨x, a, hg, hx, h1, h2, _⟩
    · simp only [limS, hg] at h0
      rw [if_neg (by omega)] at h0
      simp only at h0
      omega
    · simp only [limS, hg, if_true]
      unfold wrap64
      omega
  by_cases c : (limS bs at_ most).2.2 = 0
  · refine Ev_if_pos c ?_
    refine Ev_bindO (a := (wrap64 ((bs.length : Int) - (limS bs at_ most).2.1), (limS bs at_ most).2.1, (limS bs at_ most).2.2)) rfl ?_
    rw [hc c]
    by_cases c2 : (limS bs at_ most).1 > (bs.length : Int) - (limS bs at_ most).2.1
    · have e : cntS bs at_ most = ((limS bs at_ most).1, (limS bs at_ most).2.1, 1) := by unfold cntS; rw [if_pos ⟨c, c2⟩]
      rw [e]
      exact Ev_if_pos c2 (Ev_bindO (a := ((limS bs at_ most).2.1, 1)) rfl (Ev.now _))
    · have e : cntS bs at_ most = limS bs at_ most := by unfold cntS; rw [if_neg (fun hh => c2 hh.2)]
      rw [e]
      exact Ev_if_neg c2 (Ev.now _)
  · have e : cntS bs at_ most = limS bs at_ most := by unfold cntS; rw [if_neg (fun hh => c hh.1)]
    rw [e]
    exact Ev_if_neg c (Ev.now _)
def val1 (r : Int × Int × Int) : Int × Int × Int := (if r.2.2 = 0 then r.1 else 0, r.2.1, r.2.2)
theorem number_ev {bs : List Int} {at_ : Nat} (h : Okb bs at_) (most : Int) : Ev (fun k => pack_Reader_Number.f k bs (at_ : Int) 0 most) (val1 (limS bs at_ most)) := by
  unfold pack_Reader_Number.f
  refine Ev_if_pos rfl ((limited_ev h most).bind ?_)
  unfold val1
  by_cases c : (limS bs at_ most).2.2 = 0
  · exact Ev_if_pos c (Ev_eq (Ev.now _) (by rw [if_pos c]))
  · exact Ev_if_neg c (Ev_eq (Ev.now _) (by rw [if_neg c]))
theorem count_ev {bs : List Int} {at_ : Nat} (h : Okb bs at_) (most : Int) : Ev (fun k => pack_Reader_Count.f k bs (at_ : Int) 0 most) (val1 (cntS bs at_ most)) := by
  unfold pack_Reader_Count.f
  refine Ev_if_pos rfl ((counted_ev h most).bind ?_)
  unfold val1
  by_cases c : (cntS bs at_ most).2.2 = 0
  · exact Ev_if_pos c (Ev_eq (Ev.now _) (by rw [if_pos c]))
  · exact Ev_if_neg c (Ev_eq (Ev.now _) (by rw [if_neg c]))
theorem cntS_ok {bs : List Int} {at_ : Nat} (h : Okb bs at_) (most : Int) (h0 : (cntS bs at_ most).2.2 = 0) : ∃ (x a : Nat), getS bs at_ = ((x : Int), (a : Int), 0) ∧ cntS bs at_ most = ((x : Int), (a : Int), 0) ∧ (x : Int) ≤ most ∧ at_ < a ∧ a + x ≤ bs.length ∧ (bs.drop at_).take (a - at_) = vb x := by
  unfold cntS at h0 ⊢
  split at h0
  · simp at h0
  rename_i c
  rw [if_neg c]
  rcases getS_cases h with ⟨e, he, hg⟩ | ⟨x, a, hg, hx, h1, h2, h3⟩
  · simp only [limS, hg] at h0
    rw [if_neg (by omega)] at h0
    simp only at h0
    omega
  · simp only [limS, hg, if_true] at h0 c ⊢
    have hm : ¬ (most < (x : Int)) := by
      intro hh
      rw [if_pos hh] at h0
      cases h0
    rw [if_neg hm] at h0 c ⊢
    exact ⟨x, a, rfl, rfl, by omega, h1, by omega, h3⟩
theorem raw_loop2 (bs : List Int) (at_ n : Nat) (hl : at_ + n ≤ bs.length) (hm : bs.length ≤ 1099511627776) (x1 : Int) : ∀ (m i : Nat), n = i + m → Ev (fun k => pack_Reader_raw.l0 k (n : Int) ((bs.drop at_).take i) (at_ : Int) (i : Int) bs x1 0) ((bs.drop at_).take n, ((at_ + n : Nat) : Int), 0)
  | 0, i, h => by
    obtain rfl : n = i := by omega
    refine Ev.step (f := fun _ => some ((bs.drop at_).take n, ((at_ + n : Nat) : Int), 0)) (fun k => ?_) (Ev.now _)
    simp only [pack_Reader_raw.l0]
    rw [if_neg (by omega), show wrap64 ((at_ : Int) + (n : Int)) = ((at_ + n : Nat) : Int) by unfold wrap64; omega]
  | m + 1, i, h => by
    refine Ev.step (fun k => ?_) (raw_loop2 bs at_ n hl hm x1 m (i + 1) (by omega))
    have e1 : wrap64 ((at_ : Int) + (i : Int)) = ((at_ + i : Nat) : Int) := by unfold wrap64; omega
    have e2 := wrap_up i (by omega)
    simp only [pack_Reader_raw.l0, e1, e2]
    have hlen : ((bs.drop at_).take i).length < 140737488355328 := by rw [List.length_take, List.length_drop]; omega
    rw [if_pos (by omega), if_pos (by omega), if_pos (by omega), if_pos hlen]
    have hh : at_ + i < bs.length := by omega
    have e3 : (bs.drop at_).take (i + 1) = (bs.drop at_).take i ++ [rd bs ((at_ + i : Nat) : Int)] := by
      rw [List.take_add_one, List.getElem?_drop]
      congr 1
      rw [rd, Int.toNat_natCast, List.getD_eq_getElem?_getD, List.getElem?_eq_getElem hh]
      rfl
    rw [e3]
def rawS (bs : List Int) (at_ : Nat) (most : Int) : List Int × Int × Int := if (cntS bs at_ most).2.2 = 0 then (((bs.drop (cntS bs at_ most).2.1.toNat).take (cntS bs at_ most).1.toNat), (cntS bs at_ most).2.1 + (cntS bs at_ most).1, 0) else ([], (cntS bs at_ most).2.1, (cntS bs at_ most).2.2)
theorem raw_ev {bs : List Int} {at_ : Nat} (h : Okb bs at_) (most : Int) : Ev (fun k => pack_Reader_raw.f k bs (at_ : Int) 0 most) (rawS bs at_ most) := by
  have hl := h.len
  have hnn : ¬ ((bs.length : Int) < (bs.length : Int)) := by omega
  unfold pack_Reader_raw.f
  refine (counted_ev h most).bind ?_
  unfold rawS
  by_cases c : (cntS bs at_ most).2.2 = 0
  · obtain ⟨x, a, _, hc, _, h1, h2, _⟩ := cntS_ok h most c
    rw [hc]
    simp only [hnn, if_false, ite_self, if_true, Int.toNat_natCast]
    refine (Ev_if_neg (by omega) (Ev_if_neg (by omega) (Ev_if_neg (by omega) (Ev_if_neg ?_ ?_))))
    · rw [show wrap64 ((bs.length : Int) - (x : Int)) = (bs.length : Int) - (x : Int) by unfold wrap64; omega]
      omega
    · have := raw_loop2 bs a x h2 hl (a : Int) x 0 (by omega)
      rw [List.take_zero] at this
      refine Ev_eq this ?_
      simp
  · rw [if_neg c]
    exact Ev_if_neg c (Ev.now _)
theorem rawR_ev {bs : List Int} {at_ : Nat} (h : Okb bs at_) (most : Int) : Ev (fun k => pack_Reader_Raw.f k bs (at_ : Int) 0 most) (rawS bs at_ most) := by
  unfold pack_Reader_Raw.f
  refine Ev_if_pos rfl ((raw_ev h most).bind ?_)
  unfold rawS
  by_cases c : (cntS bs at_ most).2.2 = 0
  · rw [if_pos c]
    exact Ev_if_pos rfl (Ev.now _)
  · rw [if_neg c]
    exact Ev_if_neg c (Ev.now _)
theorem text2_ev {bs : List Int} {at_ : Nat} (h : Okb bs at_) (most : Int) : Ev (fun k => pack_Reader_Text.f k bs (at_ : Int) 0 most) (strOfNums (rawS bs at_ most).1, (rawS bs at_ most).2.1, (rawS bs at_ most).2.2) := by
  unfold pack_Reader_Text.f
  exact (rawR_ev h most).bind (Ev.now _)
theorem flag2_eq {bs : List Int} {at_ : Nat} (h : Okb bs at_) : pack_Reader_Flag.f bs (at_ : Int) 0 = some (if at_ = bs.length then (false, (at_ : Int), 1) else if rd bs (at_ : Int) > 1 then (false, ((at_ + 1 : Nat) : Int), 3) else (rd bs (at_ : Int) == 1, ((at_ + 1 : Nat) : Int), 0)) := by
  have hl := h.len
  have hle := h.le
  have e1 : wrap64 ((bs.length : Int) - (at_ : Int)) = (bs.length : Int) - (at_ : Int) := by unfold wrap64; omega
  have e2 := wrap_up at_ (by omega)
  simp only [pack_Reader_Flag.f, pack_Reader_flag.f, pack_Reader_left.f, pack_Reader_fail.f, Option.bind_some, if_true, e1, e2]
  by_cases c : at_ = bs.length
  · rw [if_pos c, if_pos (by omega)]
    rfl
  · rw [if_neg c, if_neg (by omega), if_pos (by omega), if_pos (by omega)]
    by_cases c2 : rd bs (at_ : Int) > 1
    · rw [if_pos c2, if_pos c2]
      rfl
    · rw [if_neg c2, if_neg c2]
      rfl
end Go.Proofs.Ytalpmbeddldfoaa.PA
