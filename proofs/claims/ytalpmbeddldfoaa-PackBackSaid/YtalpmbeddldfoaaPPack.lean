/- The bytes of fields, in plain lists; what is too large. -/
import Derived.Test.YtalpmbeddldfoaaPVar
import Derived.Test.YtalpmbeddldfoaaR
import Derived.Test.YtalpmbeddldfoaaFChangeoverref04Bytes
import Derived.Test.YtalpmbeddldfoaaFChangeoverlaw04Large
import Derived.Test.YtalpmbeddldfoaaFChangeoverlaw04Awake
set_option linter.unusedVariables false
set_option linter.unusedSimpArgs false
namespace Go.Proofs.Ytalpmbeddldfoaa.PA
open Go.RowKit Go.IntWalk Go.Proofs.YtalpmbeddldfoaaW.PrintWords Go.Proofs.Ytalpmbeddldfoaa.Hand
abbrev fg (l : List S40) (i : Nat) : S40 := l.getD i z40
theorem rdF (l : List S40) (i : Nat) : rd_T40 l (i : Int) = fg l i := rfl
def tb (s : ByteArray) : List Int := vb s.size ++ bytesOf s
def fb (x : S40) : List Int := if x.f0 = 1 then vb x.f1.toNat else if x.f0 = 2 then tb x.f2 else if x.f0 = 3 then [if x.f3 then 1 else 0] else []
/-- Few fields, none long. -/
structure Few (l : List S40) : Prop where
  len : l.length ≤ 60
  size : ∀ i, i < l.length → (fg l i).f2.size ≤ 200
  num : ∀ i, i < l.length → (fg l i).f1 ≤ 9223372036854775807
theorem tb_len (s : ByteArray) (h : s.size ≤ 200) : 1 ≤ (tb s).length ∧ (tb s).length ≤ 210 := by
  have := vb_len10 s.size (by omega)
  unfold tb
  rw [List.length_append, bytesOf_length]
  omega
theorem fb_len (x : S40) (h : x.f2.size ≤ 200) (hn : x.f1 ≤ 9223372036854775807) : (fb x).length ≤ 210 := by
  unfold fb
  split
  · have := vb_len10 x.f1.toNat (by omega)
    omega
  split
  · exact (tb_len _ h).2
  split <;> simp
theorem text_ev (s : ByteArray) (h : s.size ≤ 200) : Ev (fun k => changeoverref04_Text.f k s) (tb s) := by
  have e := bytes_ev (s.size : Int) (by omega)
  rw [Int.toNat_natCast] at e
  have hl := vb_len10 s.size (by omega)
  unfold changeoverref04_Text.f
  exact e.bind (Ev_if_pos (by omega) (Ev.now _))
theorem flag_eq (b : Bool) : changeoverref04_Flag.f b = some [if b then 1 else 0] := by cases b <;> rfl
theorem fbs_loop (l : List S40) (hf : Few l) : ∀ (m i : Nat) (acc : List Int), l.length ≤ i + m → acc.length ≤ 210 * i → Ev (fun k => changeoverref04_Bytes.l0 k l acc (i : Int)) (acc ++ (l.drop i).flatMap fb)
  | m, i, acc, hm, ha => by
    have h60 := hf.len
    by_cases h : i < l.length
    · obtain ⟨m, rfl⟩ : ∃ m', m = m' + 1 := ⟨m - 1, by omega⟩
      have e2 := wrap_up i (by omega)
      have hd : l.drop i = fg l i :: l.drop (i + 1) := by
        rw [List.drop_eq_getElem_cons h]
        simp [fg, List.getD_eq_getElem?_getD, List.getElem?_eq_getElem h]
      have hs := hf.size i h
      have hn := hf.num i h
      have hbl := fb_len (fg l i) hs hn
      have ih := fbs_loop l hf m (i + 1) (acc ++ fb (fg l i)) (by omega) (by rw [List.length_append]; omega)
      rw [hd, List.flatMap_cons, ← List.append_assoc]
      refine Ev.step (fun k => by simp only [changeoverref04_Bytes.l0, e2, rdF]; rw [if_pos (show (i : Int) < (l.length : Int) by omega), if_pos (show (0 : Int) ≤ (i : Int) by omega)]) ?_
      unfold fb at ih hbl ⊢
      by_cases c1 : (fg l i).f0 = 1
      · rw [if_pos c1] at ih hbl ⊢
        exact Ev_if_pos c1 ((bytes_ev _ hn).bind (Ev_if_pos (by omega) ih))
      rw [if_neg c1] at ih hbl ⊢
      refine Ev_if_neg c1 ?_
      by_cases c2 : (fg l i).f0 = 2
      · rw [if_pos c2] at ih hbl ⊢
        exact Ev_if_pos c2 ((text_ev _ hs).bind (Ev_if_pos (by omega) ih))
      rw [if_neg c2] at ih hbl ⊢
      refine Ev_if_neg c2 ?_
      by_cases c3 : (fg l i).f0 = 3
      · rw [if_pos c3] at ih hbl ⊢
        exact Ev_if_pos c3 (Ev_bindO (flag_eq _) (Ev_if_pos (by simp; omega) ih))
      · rw [if_neg c3] at ih ⊢
        rw [List.append_nil] at ih ⊢
        exact Ev_if_neg c3 ih
    · refine Ev.step (f := fun _ => some acc) (fun k => ?_) (Ev_eq (Ev.now _) ?_)
      · simp only [changeoverref04_Bytes.l0]
        ((repeat (first | refine Eq.trans (if_pos (by first | assumption | omega | trivial | exact decide_eq_true (by first | assumption | omega) | (simp only [decide_eq_true_eq]; first | assumption | omega) | (simp; done) | (simp; omega))) ?_ | refine Eq.trans (if_neg (by first | assumption | omega | (intro hh; have := of_decide_eq_true hh; first | contradiction | omega) | (simp only [decide_eq_true_eq]; first | assumption | omega) | (simp; done) | (simp; omega))) ?_)); try rfl)
      · rw [List.drop_eq_nil_of_le (by omega)]
        simp
theorem fbs_ev (l : List S40) (hf : Few l) : Ev (fun k => changeoverref04_Bytes.f k l) (l.flatMap fb) := by
  exact fbs_loop l hf l.length 0 [] (by omega) (by simp)
theorem fbs_len (l : List S40) (hf : Few l) : (l.flatMap fb).length ≤ 12600 := by
  have h : ∀ (m : List S40), (∀ x ∈ m, (fb x).length ≤ 210) → (m.flatMap fb).length ≤ 210 * m.length := by
    intro m
    induction m with
    | nil => simp
    | cons x m ih =>
      intro hx
      rw [List.flatMap_cons, List.length_append, List.length_cons]
      have h1 := hx x (by simp)
      have h2 := ih (fun y hy => hx y (by simp [hy]))
      omega
  have := h l (fun x hx => by
    obtain ⟨i, hi, rfl⟩ := List.mem_iff_getElem.1 hx
    have e : fg l i = l[i] := by simp [fg, List.getD_eq_getElem?_getD, List.getElem?_eq_getElem hi]
    have h1 := hf.size i hi
    have h2 := hf.num i hi
    rw [e] at h1 h2
    exact fb_len _ h1 h2)
  have := hf.len
  omega
theorem large4_loop (l : List S40) (hl : l.length ≤ 9223372036854775807) : ∀ (m i : Nat), 61 ≤ i + m → i ≤ 60 → (∀ j, j < i → j < l.length → (fg l j).f2.size ≤ 200) → ∃ b, Ev (fun k => changeoverlaw04_large.l0 k l (i : Int)) b ∧ (b = false → l.length ≤ 60 ∧ ∀ j, j < l.length → (fg l j).f2.size ≤ 200)
  | m, i, h2, h3, h4 => by
    by_cases h : i < l.length
    · by_cases h60 : i < 60
      · obtain ⟨m, rfl⟩ : ∃ m', m = m' + 1 := ⟨m - 1, by omega⟩
        have e2 := wrap_up i (by omega)
        by_cases hc : ((fg l i).f2.size : Int) > 200
        · refine ⟨true, Ev.step (f := fun k => changeoverlaw04_large.j1 k l i (decide ((i : Int) < 60))) (fun k => ?_) (Ev.step (f := fun _ => some true) (fun k => ?_) (Ev.now _)), by simp⟩
          · simp only [changeoverlaw04_large.l0]
            ((repeat (first | refine Eq.trans (if_pos (by first | assumption | omega | trivial | exact decide_eq_true (by first | assumption | omega) | (simp only [decide_eq_true_eq]; first | assumption | omega) | (simp; done) | (simp; omega))) ?_ | refine Eq.trans (if_neg (by first | assumption | omega | (intro hh; have := of_decide_eq_true hh; first | contradiction | omega) | (simp only [decide_eq_true_eq]; first | assumption | omega) | (simp; done) | (simp; omega))) ?_)); try rfl)
          · simp only [changeoverlaw04_large.j1, rdF]
            ((repeat (first | refine Eq.trans (if_pos (by first | assumption | omega | trivial | exact decide_eq_true (by first | assumption | omega) | (simp only [decide_eq_true_eq]; first | assumption | omega) | (simp; done) | (simp; omega))) ?_ | refine Eq.trans (if_neg (by first | assumption | omega | (intro hh; have := of_decide_eq_true hh; first | contradiction | omega) | (simp only [decide_eq_true_eq]; first | assumption | omega) | (simp; done) | (simp; omega))) ?_)); try rfl)
        · obtain ⟨b, hb, hs⟩ := large4_loop l hl m (i + 1) (by omega) (by omega) (fun j hj hjl => by
            by_cases e : j = i
            · subst e; omega
            · exact h4 j (by omega) hjl)
          refine ⟨b, Ev.step (f := fun k => changeoverlaw04_large.j1 k l i (decide ((i : Int) < 60))) (fun k => ?_) (Ev.step (fun k => ?_) hb), hs⟩
          · simp only [changeoverlaw04_large.l0]
            ((repeat (first | refine Eq.trans (if_pos (by first | assumption | omega | trivial | exact decide_eq_true (by first | assumption | omega) | (simp only [decide_eq_true_eq]; first | assumption | omega) | (simp; done) | (simp; omega))) ?_ | refine Eq.trans (if_neg (by first | assumption | omega | (intro hh; have := of_decide_eq_true hh; first | contradiction | omega) | (simp only [decide_eq_true_eq]; first | assumption | omega) | (simp; done) | (simp; omega))) ?_)); try rfl)
          · simp only [changeoverlaw04_large.j1, rdF, e2]
            ((repeat (first | refine Eq.trans (if_pos (by first | assumption | omega | trivial | exact decide_eq_true (by first | assumption | omega) | (simp only [decide_eq_true_eq]; first | assumption | omega) | (simp; done) | (simp; omega))) ?_ | refine Eq.trans (if_neg (by first | assumption | omega | (intro hh; have := of_decide_eq_true hh; first | contradiction | omega) | (simp only [decide_eq_true_eq]; first | assumption | omega) | (simp; done) | (simp; omega))) ?_)); try rfl)
      · refine ⟨decide ((l.length : Int) > 60), Ev.step (f := fun k => changeoverlaw04_large.j1 k l i (decide ((i : Int) < 60))) (fun k => ?_) (Ev.step (f := fun _ => some (decide ((l.length : Int) > 60))) (fun k => ?_) (Ev.now _)), fun hb => ?_⟩
        · simp only [changeoverlaw04_large.l0]
          ((repeat (first | refine Eq.trans (if_pos (by first | assumption | omega | trivial | exact decide_eq_true (by first | assumption | omega) | (simp only [decide_eq_true_eq]; first | assumption | omega) | (simp; done) | (simp; omega))) ?_ | refine Eq.trans (if_neg (by first | assumption | omega | (intro hh; have := of_decide_eq_true hh; first | contradiction | omega) | (simp only [decide_eq_true_eq]; first | assumption | omega) | (simp; done) | (simp; omega))) ?_)); try rfl)
        · simp only [changeoverlaw04_large.j1]
          ((repeat (first | refine Eq.trans (if_pos (by first | assumption | omega | trivial | exact decide_eq_true (by first | assumption | omega) | (simp only [decide_eq_true_eq]; first | assumption | omega) | (simp; done) | (simp; omega))) ?_ | refine Eq.trans (if_neg (by first | assumption | omega | (intro hh; have := of_decide_eq_true hh; first | contradiction | omega) | (simp only [decide_eq_true_eq]; first | assumption | omega) | (simp; done) | (simp; omega))) ?_)); try rfl)
        · simp at hb
          exact ⟨by omega, fun j hj => h4 j (by omega) hj⟩
    · refine ⟨decide ((l.length : Int) > 60), Ev.step (f := fun k => changeoverlaw04_large.j1 k l i false) (fun k => ?_) (Ev.step (f := fun _ => some (decide ((l.length : Int) > 60))) (fun k => ?_) (Ev.now _)), fun hb => ?_⟩
      · simp only [changeoverlaw04_large.l0]
        ((repeat (first | refine Eq.trans (if_pos (by first | assumption | omega | trivial | exact decide_eq_true (by first | assumption | omega) | (simp only [decide_eq_true_eq]; first | assumption | omega) | (simp; done) | (simp; omega))) ?_ | refine Eq.trans (if_neg (by first | assumption | omega | (intro hh; have := of_decide_eq_true hh; first | contradiction | omega) | (simp only [decide_eq_true_eq]; first | assumption | omega) | (simp; done) | (simp; omega))) ?_)); try rfl)
      · simp only [changeoverlaw04_large.j1]
        ((repeat (first | refine Eq.trans (if_pos (by first | assumption | omega | trivial | exact decide_eq_true (by first | assumption | omega) | (simp only [decide_eq_true_eq]; first | assumption | omega) | (simp; done) | (simp; omega))) ?_ | refine Eq.trans (if_neg (by first | assumption | omega | (intro hh; have := of_decide_eq_true hh; first | contradiction | omega) | (simp only [decide_eq_true_eq]; first | assumption | omega) | (simp; done) | (simp; omega))) ?_)); try rfl)
      · exact ⟨by omega, fun j hj => h4 j (by omega) hj⟩
theorem large4_ev (l : List S40) (hl : l.length ≤ 9223372036854775807) (hq : ∀ x ∈ l, Q40 x) : ∃ b, Ev (fun k => changeoverlaw04_large.f k l) b ∧ (b = false → Few l) := by
  obtain ⟨b, hb, hs⟩ := large4_loop l hl 61 0 (by omega) (by omega) (fun j hj => by omega)
  refine ⟨b, hb, fun h => ?_⟩
  obtain ⟨h1, h2⟩ := hs h
  refine ⟨h1, h2, fun i hi => ?_⟩
  have hm : fg l i ∈ l := by
    have e : fg l i = l[i] := by simp [fg, List.getD_eq_getElem?_getD, List.getElem?_eq_getElem hi]
    rw [e]
    exact List.getElem_mem hi
  exact (wf_i64 (hq _ hm).2.1).2
end Go.Proofs.Ytalpmbeddldfoaa.PA
