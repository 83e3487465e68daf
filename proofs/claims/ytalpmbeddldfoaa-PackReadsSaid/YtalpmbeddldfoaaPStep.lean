/- One field read: the reader, and the document's answer. -/
import Derived.Test.YtalpmbeddldfoaaPRead
import Derived.Test.YtalpmbeddldfoaaFChangeoverlaw04Read
import Derived.Test.YtalpmbeddldfoaaFChangeoverref04Read
set_option linter.unusedVariables false
set_option linter.unusedSimpArgs false
namespace Go.Proofs.Ytalpmbeddldfoaa.PA
open Go.RowKit Go.IntWalk Go.Proofs.YtalpmbeddldfoaaW.PrintWords Go.Proofs.Ytalpmbeddldfoaa.Hand
def emp : ByteArray := ⟨#[]⟩
theorem str_nil : strOfNums [] = (⟨#[]⟩ : ByteArray) := rfl
/-- What a read tells, beside the document's answer. -/
def Told (bs : List Int) (at_ : Nat) (k2 most N : Int) (S : ByteArray) (Is : Bool) (a2 no : Int) : Prop :=
  (no = 0 ∧ ∃ a : Nat, a2 = a ∧ a ≤ bs.length ∧ Ev (fun K => changeoverref04_Read.f K bs (at_ : Int) k2 most) (k2, N, S, Is, (a : Int), 0)) ∨ (no ≠ 0 ∧ N = 0 ∧ S = (⟨#[]⟩ : ByteArray) ∧ Is = false ∧ Ev (fun K => changeoverref04_Read.f K bs (at_ : Int) k2 most) (0, 0, (⟨#[]⟩ : ByteArray), false, 0, no))
theorem told_number {bs : List Int} {at_ : Nat} (h : Okb bs at_) (most : Int) : Told bs at_ 1 most (val1 (limS bs at_ most)).1 (⟨#[]⟩ : ByteArray) false (val1 (limS bs at_ most)).2.1 (val1 (limS bs at_ most)).2.2 := by
  have hl := h.len
  have g := get2_ev bs h.byt (by omega) at_ h.le
  rcases getS_cases h with ⟨e, he, hg⟩ | ⟨x, a, hg, hx, h1, h2, _⟩
  · rw [hg] at g
    have hv : val1 (limS bs at_ most) = (0, 0, e) := by
      simp only [val1, limS, hg]
      rw [if_neg (show ¬ (e = 0) by omega)]
      simp only
      rw [if_neg (show ¬ (e = 0) by omega)]
    rw [hv]
    refine .inr ⟨by simp only; omega, rfl, rfl, rfl, ?_⟩
    unfold changeoverref04_Read.f
    exact Ev_if_neg (by decide) (g.bind (Ev_if_neg (by simp only; omega) (Ev.now _)))
  · rw [hg] at g
    by_cases c : most < (x : Int)
    · have hv : val1 (limS bs at_ most) = (0, (a : Int), 2) := by
        simp only [val1, limS, hg, if_true]
        rw [if_pos c]
        rfl
      rw [hv]
      refine .inr ⟨show (2 : Int) ≠ 0 by decide, rfl, rfl, rfl, ?_⟩
      unfold changeoverref04_Read.f
      exact Ev_if_neg (by decide) (g.bind (Ev_if_pos rfl (Ev_if_pos c (Ev.now _))))
    · have hv : val1 (limS bs at_ most) = ((x : Int), (a : Int), 0) := by
        simp only [val1, limS, hg, if_true]
        rw [if_neg c]
        rfl
      rw [hv]
      refine .inl ⟨rfl, a, rfl, h2, ?_⟩
      unfold changeoverref04_Read.f
      exact Ev_if_neg (by decide) (g.bind (Ev_if_pos rfl (Ev_if_neg c (Ev_if_pos rfl (Ev.now _)))))
theorem cntS_bad {bs : List Int} {at_ : Nat} (h : Okb bs at_) (most k2 : Int) (hk : k2 ≠ 3) (hk1 : k2 ≠ 1) (h0 : (cntS bs at_ most).2.2 ≠ 0) : Ev (fun K => changeoverref04_Read.f K bs (at_ : Int) k2 most) (0, 0, (⟨#[]⟩ : ByteArray), false, 0, (cntS bs at_ most).2.2) := by
  have hl := h.len
  have g := get2_ev bs h.byt (by omega) at_ h.le
  rcases getS_cases h with ⟨e, he, hg⟩ | ⟨x, a, hg, hx, h1, h2, _⟩
  · rw [hg] at g
    have hv : cntS bs at_ most = (0, 0, e) := by
      have hl : limS bs at_ most = (0, 0, e) := by
        simp only [limS, hg]
        rw [if_neg (show ¬ (e = 0) by omega)]
      unfold cntS
      rw [hl, if_neg (fun hh => by have := hh.1; simp only at this; omega)]
    rw [hv]
    unfold changeoverref04_Read.f
    exact Ev_if_neg hk (g.bind (Ev_if_neg (by simp only; omega) (Ev.now _)))
  · rw [hg] at g
    by_cases c : most < (x : Int)
    · have hv : cntS bs at_ most = ((x : Int), (a : Int), 2) := by
        have hl : limS bs at_ most = ((x : Int), (a : Int), 2) := by
          simp only [limS, hg, if_true]
          rw [if_pos c]
        unfold cntS
        rw [hl, if_neg (fun hh => by cases hh.1)]
      rw [hv]
      unfold changeoverref04_Read.f
      exact Ev_if_neg hk (g.bind (Ev_if_pos rfl (Ev_if_pos c (Ev.now _))))
    · have hl2 : limS bs at_ most = ((x : Int), (a : Int), 0) := by
        simp only [limS, hg, if_true]
        rw [if_neg c]
      have e1 : wrap64 ((bs.length : Int) - (a : Int)) = (bs.length : Int) - (a : Int) := by unfold wrap64; omega
      by_cases c2 : (x : Int) > (bs.length : Int) - (a : Int)
      · have hv : cntS bs at_ most = ((x : Int), (a : Int), 1) := by
          unfold cntS
          rw [hl2, if_pos ⟨rfl, c2⟩]
        rw [hv]
        unfold changeoverref04_Read.f
        refine Ev_if_neg hk (g.bind (Ev_if_pos rfl (Ev_if_neg c (Ev_if_neg hk1 (Ev_if_pos ?_ (Ev.now _))))))
        simp only
        rw [e1]
        exact c2
      · exfalso
        apply h0
        unfold cntS
        rw [hl2, if_neg (fun hh => c2 hh.2)]
theorem told_count {bs : List Int} {at_ : Nat} (h : Okb bs at_) (most : Int) : Told bs at_ 4 most (val1 (cntS bs at_ most)).1 (⟨#[]⟩ : ByteArray) false (val1 (cntS bs at_ most)).2.1 (val1 (cntS bs at_ most)).2.2 := by
  have hl := h.len
  have g := get2_ev bs h.byt (by omega) at_ h.le
  by_cases c : (cntS bs at_ most).2.2 = 0
  · obtain ⟨x, a, hg, hc, hm, h1, h2, _⟩ := cntS_ok h most c
    rw [hg] at g
    have hv : val1 (cntS bs at_ most) = ((x : Int), (a : Int), 0) := by rw [hc]; rfl
    rw [hv]
    have e1 : wrap64 ((bs.length : Int) - (a : Int)) = (bs.length : Int) - (a : Int) := by unfold wrap64; omega
    refine .inl ⟨rfl, a, rfl, by omega, ?_⟩
    unfold changeoverref04_Read.f
    refine Ev_if_neg (by decide) (g.bind (Ev_if_pos rfl (Ev_if_neg (by simp only; omega) (Ev_if_neg (by decide) (Ev_if_neg ?_ (Ev_if_pos rfl (Ev.now _)))))))
    simp only
    rw [e1]
    omega
  · refine .inr ⟨c, ?_, rfl, rfl, cntS_bad h most 4 (by decide) (by decide) c⟩
    unfold val1
    rw [if_neg c]
theorem told_text {bs : List Int} {at_ : Nat} (h : Okb bs at_) (most : Int) : Told bs at_ 2 most 0 (strOfNums (rawS bs at_ most).1) false (rawS bs at_ most).2.1 (rawS bs at_ most).2.2 := by
  have hl := h.len
  have g := get2_ev bs h.byt (by omega) at_ h.le
  by_cases c : (cntS bs at_ most).2.2 = 0
  · obtain ⟨x, a, hg, hc, hm, h1, h2, _⟩ := cntS_ok h most c
    rw [hg] at g
    have hv : rawS bs at_ most = (((bs.drop a).take x), ((a + x : Nat) : Int), 0) := by
      unfold rawS
      rw [hc]
      simp
    rw [hv]
    have e1 : wrap64 ((bs.length : Int) - (a : Int)) = (bs.length : Int) - (a : Int) := by unfold wrap64; omega
    have e2 : wrap64 ((a : Int) + (x : Int)) = ((a + x : Nat) : Int) := by unfold wrap64; omega
    refine .inl ⟨rfl, a + x, rfl, by omega, ?_⟩
    unfold changeoverref04_Read.f
    refine Ev_if_neg (by decide) (g.bind (Ev_if_pos rfl (Ev_if_neg (by simp only; omega) (Ev_if_neg (by decide) (Ev_if_neg ?_ (Ev_if_neg (by decide) (Ev_if_pos (by simp only; omega) (Ev_if_pos ?_ (Ev_if_pos ?_ ?_)))))))))
    · simp only
      rw [e1]
      omega
    · simp only
      rw [e2]
      omega
    · simp only
      rw [e2]
      omega
    · refine Ev_eq (Ev.now _) ?_
      simp only
      rw [e2, Int.toNat_natCast, Int.toNat_natCast, List.drop_take, show a + x - a = x by omega]
  · have hv : rawS bs at_ most = ([], (cntS bs at_ most).2.1, (cntS bs at_ most).2.2) := by
      unfold rawS
      rw [if_neg c]
    rw [hv]
    exact .inr ⟨c, rfl, rfl, rfl, cntS_bad h most 2 (by decide) (by decide) c⟩
theorem read_step {bs : List Int} {at_ : Nat} (h : Okb bs at_) (k most : Int) (h1 : 1 ≤ k) (h5 : k ≤ 5) :
    ∃ (N : Int) (S : ByteArray) (Is : Bool) (a2 no : Int), Ev (fun K => changeoverlaw04_read.f K bs (at_ : Int) 0 k most) (if k = 5 then 2 else k, N, S, Is, a2, no) ∧ Told bs at_ (if k = 5 then 2 else k) most N S Is a2 no := by
  have hl := h.len
  unfold changeoverlaw04_read.f
  by_cases c1 : k = 1
  · subst c1
    exact ⟨_, _, _, _, _, Ev_if_pos rfl ((number_ev h most).bind (Ev.now _)), told_number h most⟩
  by_cases c2 : k = 2
  · subst c2
    exact ⟨_, _, _, _, _, Ev_if_neg (by decide) (Ev_if_pos rfl ((text2_ev h most).bind (Ev.now _))), told_text h most⟩
  by_cases c3 : k = 3
  · subst c3
    have hf := flag2_eq h
    by_cases c : at_ = bs.length
    · rw [if_pos c] at hf
      refine ⟨0, (⟨#[]⟩ : ByteArray), false, _, _, Ev_if_neg (by decide) (Ev_if_neg (by decide) (Ev_if_pos rfl (Ev_bindO hf (Ev.now _)))), .inr ⟨show (1 : Int) ≠ 0 by decide, rfl, rfl, rfl, ?_⟩⟩
      unfold changeoverref04_Read.f
      exact Ev_if_pos rfl (Ev_if_pos (by omega) (Ev.now _))
    · rw [if_neg c] at hf
      have hle := h.le
      by_cases c2 : rd bs (at_ : Int) > 1
      · rw [if_pos c2] at hf
        refine ⟨0, (⟨#[]⟩ : ByteArray), false, _, _, Ev_if_neg (by decide) (Ev_if_neg (by decide) (Ev_if_pos rfl (Ev_bindO hf (Ev.now _)))), .inr ⟨show (3 : Int) ≠ 0 by decide, rfl, rfl, rfl, ?_⟩⟩
        unfold changeoverref04_Read.f
        exact Ev_if_pos rfl (Ev_if_neg (by omega) (Ev_if_pos (by omega) (Ev_if_pos (by omega) (Ev_if_pos c2 (Ev.now _)))))
      · rw [if_neg c2] at hf
        refine ⟨0, (⟨#[]⟩ : ByteArray), _, _, _, Ev_if_neg (by decide) (Ev_if_neg (by decide) (Ev_if_pos rfl (Ev_bindO hf (Ev.now _)))), .inl ⟨rfl, at_ + 1, rfl, by omega, ?_⟩⟩
        unfold changeoverref04_Read.f
        have e2 := wrap_up at_ (by omega)
        refine Ev_if_pos rfl (Ev_if_neg (by omega) (Ev_if_pos (by omega) (Ev_if_pos (by omega) (Ev_if_neg c2 (Ev_eq (Ev.now _) ?_)))))
        rw [e2]
        rfl
  by_cases c4 : k = 4
  · subst c4
    exact ⟨_, _, _, _, _, Ev_if_neg (by decide) (Ev_if_neg (by decide) (Ev_if_neg (by decide) (Ev_if_pos rfl ((count_ev h most).bind (Ev.now _))))), told_count h most⟩
  · obtain rfl : k = 5 := by omega
    exact ⟨_, _, _, _, _, Ev_if_neg (by decide) (Ev_if_neg (by decide) (Ev_if_neg (by decide) (Ev_if_neg (by decide) ((rawR_ev h most).bind (Ev.now _))))), told_text h most⟩
/-- Behind an error nothing is told. -/
theorem read_dead (bs : List Int) (at_ no : Int) (hno : no ≠ 0) (k most : Int) (h1 : 1 ≤ k) (h5 : k ≤ 5) : ∀ K, changeoverlaw04_read.f K bs at_ no k most = some (if k = 5 then 2 else k, 0, (⟨#[]⟩ : ByteArray), false, at_, no) := by
  intro K
  have hn : pack_Reader_Number.f K bs at_ no most = some (0, at_, no) := by rw [pack_Reader_Number.f, if_neg hno]
  have hc : pack_Reader_Count.f K bs at_ no most = some (0, at_, no) := by rw [pack_Reader_Count.f, if_neg hno]
  have hr : pack_Reader_Raw.f K bs at_ no most = some ([], at_, no) := by rw [pack_Reader_Raw.f, if_neg hno]
  have ht : pack_Reader_Text.f K bs at_ no most = some ((⟨#[]⟩ : ByteArray), at_, no) := by rw [pack_Reader_Text.f, hr]; rfl
  have hf : pack_Reader_Flag.f bs at_ no = some (false, at_, no) := by rw [pack_Reader_Flag.f, if_neg hno]
  unfold changeoverlaw04_read.f
  by_cases c1 : k = 1
  · subst c1; rw [if_pos rfl, hn]; rfl
  rw [if_neg c1]
  by_cases c2 : k = 2
  · subst c2; rw [if_pos rfl, ht]; rfl
  rw [if_neg c2]
  by_cases c3 : k = 3
  · subst c3; rw [if_pos rfl, hf]; rfl
  rw [if_neg c3]
  by_cases c4 : k = 4
  · subst c4; rw [if_pos rfl, hc]; rfl
  rw [if_neg c4]
  obtain rfl : k = 5 := by omega
  rw [hr]; rfl
end Go.Proofs.Ytalpmbeddldfoaa.PA
