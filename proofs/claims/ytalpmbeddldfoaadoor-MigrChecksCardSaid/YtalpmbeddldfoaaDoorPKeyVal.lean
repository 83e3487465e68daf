/- The references for keys and values say what the walks come to. -/
import Derived.Test.YtalpmbeddldfoaaDoorHandKey
import Derived.Test.YtalpmbeddldfoaaDoorHandD
import Derived.Test.YtalpmbeddldfoaaDoorFChangeoverref05Key
import Derived.Test.YtalpmbeddldfoaaDoorFChangeoverref05Val
set_option linter.unusedVariables false
set_option linter.unusedSimpArgs false
namespace Go.Proofs.YtalpmbeddldfoaaDoor.PA
open Go.RowKit Go.IntWalk Go.Proofs.YtalpmbeddldfoaaDoorW.PrintWords Go.Proofs.YtalpmbeddldfoaaDoor.Hand
def Vq : ByteArray := ⟨#[97, 98, 99, 100, 101, 102, 103, 104, 105, 106, 107, 108, 109, 110, 111, 112, 113, 114, 115, 116, 117, 118, 119, 120, 121, 122, 65, 66, 67, 68, 69, 70, 71, 72, 73, 74, 75, 76, 77, 78, 79, 80, 81, 82, 83, 84, 85, 86, 87, 88, 89, 90, 48, 49, 50, 51, 52, 53, 54, 55, 56, 57, 45, 95, 46, 58]⟩
theorem Vt (v : Int) (s : ByteArray) (hs : s.size ≤ 1000) : ∀ (m i : Nat), s.size ≤ i + m → (∀ j, j < i → j < s.size → bt s (j : Int) ≠ v) →
 Ev (fun k => qH.l0 k v s (i : Int)) (decide ((∃ j, j < s.size ∧ bt s (j : Int) = v) ∨ (161 ≤ v ∧ v ≠ 65533)))
 | m, i, hm, hno => by
  by_cases h : i < s.size
  ·obtain ⟨m, rfl⟩ : ∃ m', m = m' + 1 := ⟨m - 1, by omega⟩
   have e2 := zt i (by omega)
   have hr := Zd s (i : Int)
   have e3 : wrap64 (bt s (i : Int)) = bt s (i : Int) := wrap64_in _ (by omega)
   by_cases hc : bt s (i : Int) = v
   ·rw [decide_eq_true (.inl ⟨i, h, hc⟩)]
    exact Ev.step (f := fun _ => some true) (fun k => by simp only [qH.l0, e3]; ((repeat(first|refine Eq.trans (if_pos (by first|assumption|omega|trivial|exact decide_eq_true (by first|assumption|omega)|(simp only[decide_eq_true_eq];first|assumption|omega)|(simp;done)|(simp;omega))) ?_|refine Eq.trans (if_neg (by first|assumption|omega|(intro hh;have:=of_decide_eq_true hh;first|contradiction|omega)|(simp only[decide_eq_true_eq];first|assumption|omega)|(simp;done)|(simp;omega))) ?_));try rfl)) (Ev.now _)
   ·refine Ev.step (fun k => by simp only [qH.l0, e2, e3]; ((repeat(first|refine Eq.trans (if_pos (by first|assumption|omega|trivial|exact decide_eq_true (by first|assumption|omega)|(simp only[decide_eq_true_eq];first|assumption|omega)|(simp;done)|(simp;omega))) ?_|refine Eq.trans (if_neg (by first|assumption|omega|(intro hh;have:=of_decide_eq_true hh;first|contradiction|omega)|(simp only[decide_eq_true_eq];first|assumption|omega)|(simp;done)|(simp;omega))) ?_));try rfl)) (Vt v s hs m (i + 1) (by omega) (fun j hj hk => ?_))
    by_cases e : j = i
    ·subst e; exact hc
    ·exact hno j (by omega) hk
  ·have hn : ¬ ∃ j, j < s.size ∧ bt s (j : Int) = v := fun ⟨j, hj, e⟩ => hno j (by omega) hj e
   by_cases hc : v ≥ 161
   ·refine Ev.step (f := fun _ => some (v != 65533)) (fun k => by simp only [qH.l0]; ((repeat(first|refine Eq.trans (if_pos (by first|assumption|omega|trivial|exact decide_eq_true (by first|assumption|omega)|(simp only[decide_eq_true_eq];first|assumption|omega)|(simp;done)|(simp;omega))) ?_|refine Eq.trans (if_neg (by first|assumption|omega|(intro hh;have:=of_decide_eq_true hh;first|contradiction|omega)|(simp only[decide_eq_true_eq];first|assumption|omega)|(simp;done)|(simp;omega))) ?_));try rfl)) (jo (Ev.now _) ?_)
    rw [Bool.eq_iff_iff]
    simp only [decide_eq_true_eq, bne_iff_ne]
    exact ⟨fun e => .inr ⟨hc, e⟩, fun e => by rcases e with e | e; exact absurd e hn; exact e.2⟩
   ·rw [decide_eq_false (by rintro (e | e); exact hn e; exact hc e.1)]
    exact Ev.step (f := fun _ => some false) (fun k => by simp only [qH.l0]; ((repeat(first|refine Eq.trans (if_pos (by first|assumption|omega|trivial|exact decide_eq_true (by first|assumption|omega)|(simp only[decide_eq_true_eq];first|assumption|omega)|(simp;done)|(simp;omega))) ?_|refine Eq.trans (if_neg (by first|assumption|omega|(intro hh;have:=of_decide_eq_true hh;first|contradiction|omega)|(simp only[decide_eq_true_eq];first|assumption|omega)|(simp;done)|(simp;omega))) ?_));try rfl)) (Ev.now _)
def low (v : Nat) : Bool := decide ((97 ≤ v ∧ v ≤ 122) ∨ (65 ≤ v ∧ v ≤ 90) ∨ (48 ≤ v ∧ v ≤ 57) ∨ v = 45 ∨ v = 95 ∨ v = 46 ∨ v = 58)
theorem alpha_low : ∀ j : Fin 66, low (Vq.get! j.val).toNat = true := by decide +kernel
theorem low_alpha : ∀ v : Fin 128, low v.val = true → ∃ j : Fin 66, (Vq.get! j.val).toNat = v.val := by decide +kernel
theorem jz : Vq.size = 66 := by decide +kernel
theorem alpha_is (v : Int) : (∃ j, j < Vq.size ∧ bt Vq (j : Int) = v) ↔ ((97 ≤ v ∧ v ≤ 122) ∨ (65 ≤ v ∧ v ≤ 90) ∨ (48 ≤ v ∧ v ≤ 57) ∨ v = 45 ∨ v = 95 ∨ v = 46 ∨ v = 58) := by
 constructor
 ·rintro ⟨j, hj, rfl⟩
  rw [Vc Vq j hj]
  have := alpha_low ⟨j, by rw [jz] at hj; exact hj⟩
  simp only [low, decide_eq_true_eq] at this
  omega
 ·intro h
  obtain ⟨n, rfl⟩ : ∃ n : Nat, v = n := ⟨v.toNat, by omega⟩
  obtain ⟨j, hj⟩ := low_alpha ⟨n, by omega⟩ (by simp only [low, decide_eq_true_eq]; omega)
  refine ⟨j.val, by rw [jz]; exact j.isLt, ?_⟩
  rw [Vc Vq j.val (by rw [jz]; exact j.isLt), hj]
theorem refPlain_ev (v : Int) : Ev (fun k => qH.f k v) (QF v) := by
 have h := Vt v Vq (by rw [jz]; omega) 66 0 (by rw [jz]; omega) (fun j hj => by omega)
 refine jo (g := fun k => qH.f k v) h ?_
 rw [Bool.eq_iff_iff]
 unfold QF
 simp only [decide_eq_true_eq, alpha_is]
 omega
theorem QV (s : ByteArray) (g i : Nat) (h : i < s.size) (c : ¬ ((Utf8.decode s i).2 = 1 ∧ (Utf8.decode s i).1 = 65533)) : zw s (g + 1) i = zw s g (i + (Utf8.decode s i).2) := by
 simp only [zw, h, if_true]
 rw [if_neg c]
theorem ZB (s : ByteArray) (hb : s.size ≤ 1073741824) : ∀ (g i : Nat), s.size ≤ i + g → i ≤ s.size → Ev (fun k => qy.l0 k s (i : Int)) (decide (zw s g i < 0) && zE s jv g i)
 | g, i, hm, hle => by
  by_cases h : i < s.size
  ·obtain ⟨g, rfl⟩ : ∃ m', g = m' + 1 := ⟨g - 1, by omega⟩
   have he := size_is s i h hb
   have hf := szp_fst s i
   have hw := QN s i h
   have hp := Lib.width_pos s i
   by_cases c1 : (Utf8.decode s i).2 = 1 ∧ (Utf8.decode s i).1 = 65533
   ·have c2 : ((ZN s i).1 : Int) = 0 := by have := hf.1.mpr c1; omega
    have hbad : zw s (g + 1) i = (i : Int) := by simp only [zw, h, if_true]; rw [if_pos c1]
    rw [hbad, decide_eq_false (by omega), Bool.false_and]
    exact Ev.step (fun k => by simp only [qy.l0]; ((repeat(first|refine Eq.trans (if_pos (by first|assumption|omega|trivial|exact decide_eq_true (by first|assumption|omega)|(simp only[decide_eq_true_eq];first|assumption|omega)|(simp;done)|(simp;omega))) ?_|refine Eq.trans (if_neg (by first|assumption|omega|(intro hh;have:=of_decide_eq_true hh;first|contradiction|omega)|(simp only[decide_eq_true_eq];first|assumption|omega)|(simp;done)|(simp;omega))) ?_));try rfl)) (he.bind (vm c2 (Ev.now _)))
   ·have c2 : ¬ (ZN s i).1 = 0 := fun e => c1 (hf.1.mp e)
    have c3 := (hf.2 c2).1
    have c5 := (hf.2 c2).2
    have c4 : ¬ ((ZN s i).1 : Int) = 0 := by omega
    have e1 : wrap64 ((i : Int) + ((ZN s i).1 : Int)) = ((i + (Utf8.decode s i).2 : Nat) : Int) := by rw [c3, wrap64_in _ (by omega)]; omega
    have ih := ZB s hb g (i + (Utf8.decode s i).2) (by omega) hw
    have hpl := refPlain_ev ((ZN s i).2 : Int)
    rw [QV s g i h c1]
    have ha : zE s jv (g + 1) i = if jv (Utf8.decode s i).1 = true then zE s jv g (i + (Utf8.decode s i).2) else false := by simp only [zE, h, if_true]
    rw [ha]
    refine Ev.step (fun k => by simp only [qy.l0]; ((repeat(first|refine Eq.trans (if_pos (by first|assumption|omega|trivial|exact decide_eq_true (by first|assumption|omega)|(simp only[decide_eq_true_eq];first|assumption|omega)|(simp;done)|(simp;omega))) ?_|refine Eq.trans (if_neg (by first|assumption|omega|(intro hh;have:=of_decide_eq_true hh;first|contradiction|omega)|(simp only[decide_eq_true_eq];first|assumption|omega)|(simp;done)|(simp;omega))) ?_));try rfl)) (he.bind (qW c4 (hpl.bind ?_)))
    dsimp only
    have hv : QF ((ZN s i).2 : Int) = jv (Utf8.decode s i).1 := by rw [c5]; rfl
    rw [hv]
    cases jv (Utf8.decode s i).1
    ·refine qW (by simp) (jo (Ev.now _) ?_)
     simp
    ·refine vm rfl ?_
     rw [e1, if_pos rfl]
     exact ih
  ·have hbad : zw s g i = -1 := Qi s g i h
   rw [hbad, Qo s jv g i h]
   exact Ev.step (f := fun _ => some true) (fun k => by simp only [qy.l0]; ((repeat(first|refine Eq.trans (if_pos (by first|assumption|omega|trivial|exact decide_eq_true (by first|assumption|omega)|(simp only[decide_eq_true_eq];first|assumption|omega)|(simp;done)|(simp;omega))) ?_|refine Eq.trans (if_neg (by first|assumption|omega|(intro hh;have:=of_decide_eq_true hh;first|contradiction|omega)|(simp only[decide_eq_true_eq];first|assumption|omega)|(simp;done)|(simp;omega))) ?_));try rfl)) (jo (Ev.now _) (by simp))
theorem jT (s : ByteArray) (hb : s.size ≤ 1073741824) : Ev (fun k => qy.f k s) (QH s) := by
 unfold qy.f QH
 by_cases h : (s.size : Int) < 1
 ·refine vm h (jo (Ev.step (f := fun _ => some false) (fun k => by simp only [qy.j0]; ((repeat(first|refine Eq.trans (if_pos (by first|assumption|omega|trivial|exact decide_eq_true (by first|assumption|omega)|(simp only[decide_eq_true_eq];first|assumption|omega)|(simp;done)|(simp;omega))) ?_|refine Eq.trans (if_neg (by first|assumption|omega|(intro hh;have:=of_decide_eq_true hh;first|contradiction|omega)|(simp only[decide_eq_true_eq];first|assumption|omega)|(simp;done)|(simp;omega))) ?_));try rfl)) (Ev.now _)) ?_)
  rw [decide_eq_false (show ¬ 1 ≤ s.size by omega)]
  rfl
 ·refine qW h ?_
  rw [decide_eq_true (show 1 ≤ s.size by omega)]
  by_cases h2 : s.size ≤ 24
  ·rw [decide_eq_false (show ¬ ((s.size : Int) > 24) by omega), decide_eq_true h2]
   exact Ev.step (fun k => by simp only [qy.j0]; ((repeat(first|refine Eq.trans (if_pos (by first|assumption|omega|trivial|exact decide_eq_true (by first|assumption|omega)|(simp only[decide_eq_true_eq];first|assumption|omega)|(simp;done)|(simp;omega))) ?_|refine Eq.trans (if_neg (by first|assumption|omega|(intro hh;have:=of_decide_eq_true hh;first|contradiction|omega)|(simp only[decide_eq_true_eq];first|assumption|omega)|(simp;done)|(simp;omega))) ?_));try rfl)) (ZB s hb s.size 0 (by omega) (by omega))
  ·rw [decide_eq_true (show ((s.size : Int) > 24) by omega), decide_eq_false h2]
   exact Ev.step (f := fun _ => some false) (fun k => by simp only [qy.j0]; ((repeat(first|refine Eq.trans (if_pos (by first|assumption|omega|trivial|exact decide_eq_true (by first|assumption|omega)|(simp only[decide_eq_true_eq];first|assumption|omega)|(simp;done)|(simp;omega))) ?_|refine Eq.trans (if_neg (by first|assumption|omega|(intro hh;have:=of_decide_eq_true hh;first|contradiction|omega)|(simp only[decide_eq_true_eq];first|assumption|omega)|(simp;done)|(simp;omega))) ?_));try rfl)) (Ev.now _)
def jJ (s : ByteArray) : Nat → Nat → Bool
 | 0, _ => true
 | m + 1, i => if bt s (i : Int) < 32 ∨ bt s (i : Int) = 127 then false else jJ s m (i + 1)
theorem Zy (s : ByteArray) (hb : s.size ≤ 1073741824) : ∀ (m i : Nat), i + m = s.size → Ev (fun k => qv.l0 k s (i : Int)) (jJ s m i)
 | 0, i, hm => Ev.step (f := fun _ => some true) (fun k => by simp only [qv.l0]; ((repeat(first|refine Eq.trans (if_pos (by first|assumption|omega|trivial|exact decide_eq_true (by first|assumption|omega)|(simp only[decide_eq_true_eq];first|assumption|omega)|(simp;done)|(simp;omega))) ?_|refine Eq.trans (if_neg (by first|assumption|omega|(intro hh;have:=of_decide_eq_true hh;first|contradiction|omega)|(simp only[decide_eq_true_eq];first|assumption|omega)|(simp;done)|(simp;omega))) ?_));try rfl)) (Ev.now _)
 | m + 1, i, hm => by
  have e2 := zt i (by omega)
  unfold jJ
  by_cases c1 : bt s (i : Int) < 32
  ·rw [if_pos (.inl c1)]
   exact Ev.step (f := fun _ => some false) (fun k => by simp only [qv.l0]; ((repeat(first|refine Eq.trans (if_pos (by first|assumption|omega|trivial|exact decide_eq_true (by first|assumption|omega)|(simp only[decide_eq_true_eq];first|assumption|omega)|(simp;done)|(simp;omega))) ?_|refine Eq.trans (if_neg (by first|assumption|omega|(intro hh;have:=of_decide_eq_true hh;first|contradiction|omega)|(simp only[decide_eq_true_eq];first|assumption|omega)|(simp;done)|(simp;omega))) ?_));try rfl)) (Ev.now _)
  ·by_cases c2 : bt s (i : Int) = 127
   ·rw [if_pos (.inr c2)]
    exact Ev.step (f := fun _ => some false) (fun k => by simp only [qv.l0]; ((repeat(first|refine Eq.trans (if_pos (by first|assumption|omega|trivial|exact decide_eq_true (by first|assumption|omega)|(simp only[decide_eq_true_eq];first|assumption|omega)|(simp;done)|(simp;omega))) ?_|refine Eq.trans (if_neg (by first|assumption|omega|(intro hh;have:=of_decide_eq_true hh;first|contradiction|omega)|(simp only[decide_eq_true_eq];first|assumption|omega)|(simp;done)|(simp;omega))) ?_));try rfl)) (Ev.now _)
   ·rw [if_neg (by rintro (h | h); exact c1 h; exact c2 h)]
    exact Ev.step (fun k => by simp only [qv.l0, e2]; ((repeat(first|refine Eq.trans (if_pos (by first|assumption|omega|trivial|exact decide_eq_true (by first|assumption|omega)|(simp only[decide_eq_true_eq];first|assumption|omega)|(simp;done)|(simp;omega))) ?_|refine Eq.trans (if_neg (by first|assumption|omega|(intro hh;have:=of_decide_eq_true hh;first|contradiction|omega)|(simp only[decide_eq_true_eq];first|assumption|omega)|(simp;done)|(simp;omega))) ?_));try rfl)) (Zy s hb m (i + 1) (by omega))
theorem QM (s : ByteArray) : ∀ (K m i : Nat), K ≤ m → (∀ j, j < K → 128 ≤ bt s ((i + j : Nat) : Int)) → jJ s m i = jJ s (m - K) (i + K)
 | 0, m, i, _, _ => by simp
 | K + 1, m, i, hK, h => by
  obtain ⟨m, rfl⟩ : ∃ m', m = m' + 1 := ⟨m - 1, by omega⟩
  have h0 := h 0 (by omega)
  rw [Nat.add_zero] at h0
  have := QM s K m (i + 1) (by omega) (fun j hj => by have := h (j + 1) (by omega); rw [show i + 1 + j = i + (j + 1) by omega]; exact this)
  conv => lhs; unfold jJ
  rw [if_neg (by omega), this]
  congr 1
  ·omega
  ·omega
theorem decode_bytes (s : ByteArray) (i : Nat) (h : i < s.size) (c : ¬ ((Utf8.decode s i).2 = 1 ∧ (Utf8.decode s i).1 = 65533)) :
 ((Utf8.decode s i).2 = 1 ∧ bt s (i : Int) = ((Utf8.decode s i).1 : Int) ∧ (Utf8.decode s i).1 < 128) ∨ (2 ≤ (Utf8.decode s i).2 ∧ 128 ≤ (Utf8.decode s i).1 ∧ ∀ j, j < (Utf8.decode s i).2 → 128 ≤ bt s ((i + j : Nat) : Int)) := by
 have hw := QN s i h
 have e1 : ∀ j, i + j < s.size → bt s ((i + j : Nat) : Int) = ((s.get! (i + j)).toNat : Int) := fun j h => Vc s (i + j) h
 have e0 := Vc s i h
 rw [Lib.decode_at] at c hw ⊢
 generalize hN : Lib.decodeN _ _ _ _ _ = d at c hw ⊢
 unfold Lib.decodeN at hN
 split at hN
 ·subst hN
  exact .inl ⟨rfl, e0, by assumption⟩
 ·rename_i c0
  split at hN
  ·rename_i c1
   split at hN
   ·subst hN
    refine .inr ⟨by simp, by simpa using by assumption, fun j hj => ?_⟩
    have hj' : j < 2 := hj
    rw [e1 j (by simp at hw; omega)]
    rcases (show j = 0 ∨ j = 1 by omega) with rfl | rfl
    ·rw [Nat.add_zero]; omega
    ·omega
   ·subst hN; exact absurd ⟨rfl, rfl⟩ c
  ·split at hN
   ·rename_i c1
    split at hN
    ·subst hN
     refine .inr ⟨by simp, by simp; omega, fun j hj => ?_⟩
     have hj' : j < 3 := hj
     rw [e1 j (by simp at hw; omega)]
     rcases (show j = 0 ∨ j = 1 ∨ j = 2 by omega) with rfl | rfl | rfl
     ·rw [Nat.add_zero]; omega
     ·omega
     ·omega
    ·subst hN; exact absurd ⟨rfl, rfl⟩ c
   ·split at hN
    ·rename_i c1
     split at hN
     ·subst hN
      refine .inr ⟨by simp, by simp; omega, fun j hj => ?_⟩
      have hj' : j < 4 := hj
      rw [e1 j (by simp at hw; omega)]
      rcases (show j = 0 ∨ j = 1 ∨ j = 2 ∨ j = 3 by omega) with rfl | rfl | rfl | rfl
      ·rw [Nat.add_zero]; omega
      ·omega
      ·omega
      ·omega
     ·subst hN; exact absurd ⟨rfl, rfl⟩ c
    ·subst hN; exact absurd ⟨rfl, rfl⟩ c
theorem ZC (s : ByteArray) : ∀ (g i : Nat), s.size ≤ i + g → i ≤ s.size → zw s g i < 0 → zE s Qh g i = jJ s (s.size - i) i
 | g, i, hm, hle, hb => by
  by_cases h : i < s.size
  ·obtain ⟨g, rfl⟩ : ∃ m', g = m' + 1 := ⟨g - 1, by omega⟩
   have hw := QN s i h
   have hp := Lib.width_pos s i
   by_cases c1 : (Utf8.decode s i).2 = 1 ∧ (Utf8.decode s i).1 = 65533
   ·have hbad : zw s (g + 1) i = (i : Int) := by simp only [zw, h, if_true]; rw [if_pos c1]
    omega
   ·rw [QV s g i h c1] at hb
    have ih := ZC s g (i + (Utf8.decode s i).2) (by omega) hw hb
    have ha : zE s Qh (g + 1) i = if Qh (Utf8.decode s i).1 = true then zE s Qh g (i + (Utf8.decode s i).2) else false := by simp only [zE, h, if_true]
    rw [ha, ih]
    rcases decode_bytes s i h c1 with ⟨h1, h2, h3⟩ | ⟨h1, h2, h3⟩
    ·rw [h1]
     obtain ⟨m, hm'⟩ : ∃ m, s.size - i = m + 1 := ⟨s.size - i - 1, by omega⟩
     have hm2 : s.size - (i + 1) = m := by omega
     rw [hm', hm2]
     conv => rhs; unfold jJ
     rw [h2]
     by_cases q : Qh (Utf8.decode s i).1 = true
     ·rw [if_pos q, if_neg]
      simp only [Qh, Bool.and_eq_true, decide_eq_true_eq] at q
      omega
     ·rw [if_neg q, if_pos]
      simp only [Qh, Bool.and_eq_true, decide_eq_true_eq] at q
      omega
    ·have q : Qh (Utf8.decode s i).1 = true := by simp only [Qh, Bool.and_eq_true, decide_eq_true_eq]; omega
     rw [if_pos q, QM s (Utf8.decode s i).2 (s.size - i) i (by omega) h3]
     congr 1
     omega
  ·rw [Qo s Qh g i h, show s.size - i = 0 by omega]
   rfl
theorem je (s : ByteArray) (hb : s.size ≤ 1073741824) : Ev (fun k => qv.f k s) (jK s) := by
 unfold qv.f jK
 by_cases h2 : s.size ≤ 48
 ·refine qW (by omega) ((refBad_ev s hb).bind ?_)
  rw [decide_eq_true h2]
  unfold QW
  by_cases hbd : zw s s.size 0 < 0
  ·rw [decide_eq_false (show ¬ zw s s.size 0 ≥ 0 by omega), decide_eq_true hbd, ZC s s.size 0 (by omega) (by omega) hbd]
   exact Ev.step (fun k => by simp only [qv.j0]; ((repeat(first|refine Eq.trans (if_pos (by first|assumption|omega|trivial|exact decide_eq_true (by first|assumption|omega)|(simp only[decide_eq_true_eq];first|assumption|omega)|(simp;done)|(simp;omega))) ?_|refine Eq.trans (if_neg (by first|assumption|omega|(intro hh;have:=of_decide_eq_true hh;first|contradiction|omega)|(simp only[decide_eq_true_eq];first|assumption|omega)|(simp;done)|(simp;omega))) ?_));try rfl)) (Zy s hb s.size 0 (by omega))
  ·rw [decide_eq_true (show zw s s.size 0 ≥ 0 by omega), decide_eq_false hbd]
   exact Ev.step (f := fun _ => some false) (fun k => by simp only [qv.j0]; ((repeat(first|refine Eq.trans (if_pos (by first|assumption|omega|trivial|exact decide_eq_true (by first|assumption|omega)|(simp only[decide_eq_true_eq];first|assumption|omega)|(simp;done)|(simp;omega))) ?_|refine Eq.trans (if_neg (by first|assumption|omega|(intro hh;have:=of_decide_eq_true hh;first|contradiction|omega)|(simp only[decide_eq_true_eq];first|assumption|omega)|(simp;done)|(simp;omega))) ?_));try rfl)) (Ev.now _)
 ·refine vm (by omega) (jo (Ev.step (f := fun _ => some false) (fun k => by simp only [qv.j0]; ((repeat(first|refine Eq.trans (if_pos (by first|assumption|omega|trivial|exact decide_eq_true (by first|assumption|omega)|(simp only[decide_eq_true_eq];first|assumption|omega)|(simp;done)|(simp;omega))) ?_|refine Eq.trans (if_neg (by first|assumption|omega|(intro hh;have:=of_decide_eq_true hh;first|contradiction|omega)|(simp only[decide_eq_true_eq];first|assumption|omega)|(simp;done)|(simp;omega))) ?_));try rfl)) (Ev.now _)) ?_)
  rw [decide_eq_false h2]
  rfl
end Go.Proofs.YtalpmbeddldfoaaDoor.PA
