/- The texts' checks come to an end; the pairs' check and what it says. -/
import Derived.Test.YtalpmbeddldfoaaDoorPPair
import Derived.Test.YtalpmbeddldfoaaDoorFChangeoverref23Check
import Derived.Test.YtalpmbeddldfoaaDoorFChangeoverref05Size
import Derived.Test.YtalpmbeddldfoaaDoorHandD
import Derived.Test.YtalpmbeddldfoaaDoorFChangeoverref05Key
import Derived.Test.YtalpmbeddldfoaaDoorFChangeoverref23Place
import Derived.Test.YtalpmbeddldfoaaDoorFChangeoverref05Val
set_option linter.unusedVariables false
set_option linter.unusedSimpArgs false
namespace Go.Proofs.YtalpmbeddldfoaaDoor.PA
open Go.RowKit Go.IntWalk Go.Proofs.YtalpmbeddldfoaaDoorW.PrintWords Go.Proofs.YtalpmbeddldfoaaDoor.Hand
theorem VX (r : Int) (s : ByteArray) (hs : s.size ≤ 1000) : ∀ (m i : Nat), s.size ≤ i + m → ∃ b, Ev (fun k => qH.l0 k r s (i : Int)) b
 | m, i, hm => by
  by_cases h : i < s.size
  ·obtain ⟨m, rfl⟩ : ∃ m', m = m' + 1 := ⟨m - 1, by omega⟩
   have e2 := zt i (by omega)
   by_cases hc : wrap64 (bt s (i : Int)) = r
   ·exact ⟨true, Ev.step (f := fun _ => some true) (fun k => by simp only [qH.l0]; ((repeat(first|refine Eq.trans (if_pos (by first|assumption|omega|trivial|exact decide_eq_true (by first|assumption|omega)|(simp only[decide_eq_true_eq];first|assumption|omega)|(simp;done)|(simp;omega))) ?_|refine Eq.trans (if_neg (by first|assumption|omega|(intro hh;have:=of_decide_eq_true hh;first|contradiction|omega)|(simp only[decide_eq_true_eq];first|assumption|omega)|(simp;done)|(simp;omega))) ?_));try rfl)) (Ev.now _)⟩
   ·obtain ⟨b, hb⟩ := VX r s hs m (i + 1) (by omega)
    exact ⟨b, Ev.step (fun k => by simp only [qH.l0, e2]; ((repeat(first|refine Eq.trans (if_pos (by first|assumption|omega|trivial|exact decide_eq_true (by first|assumption|omega)|(simp only[decide_eq_true_eq];first|assumption|omega)|(simp;done)|(simp;omega))) ?_|refine Eq.trans (if_neg (by first|assumption|omega|(intro hh;have:=of_decide_eq_true hh;first|contradiction|omega)|(simp only[decide_eq_true_eq];first|assumption|omega)|(simp;done)|(simp;omega))) ?_));try rfl)) hb⟩
  ·by_cases hc : r ≥ 161
   ·exact ⟨r != 65533, Ev.step (f := fun _ => some (r != 65533)) (fun k => by simp only [qH.l0]; ((repeat(first|refine Eq.trans (if_pos (by first|assumption|omega|trivial|exact decide_eq_true (by first|assumption|omega)|(simp only[decide_eq_true_eq];first|assumption|omega)|(simp;done)|(simp;omega))) ?_|refine Eq.trans (if_neg (by first|assumption|omega|(intro hh;have:=of_decide_eq_true hh;first|contradiction|omega)|(simp only[decide_eq_true_eq];first|assumption|omega)|(simp;done)|(simp;omega))) ?_));try rfl)) (Ev.now _)⟩
   ·exact ⟨false, Ev.step (f := fun _ => some false) (fun k => by simp only [qH.l0]; ((repeat(first|refine Eq.trans (if_pos (by first|assumption|omega|trivial|exact decide_eq_true (by first|assumption|omega)|(simp only[decide_eq_true_eq];first|assumption|omega)|(simp;done)|(simp;omega))) ?_|refine Eq.trans (if_neg (by first|assumption|omega|(intro hh;have:=of_decide_eq_true hh;first|contradiction|omega)|(simp only[decide_eq_true_eq];first|assumption|omega)|(simp;done)|(simp;omega))) ?_));try rfl)) (Ev.now _)⟩
theorem plain_ev (r : Int) : ∃ b, Ev (fun k => qH.f k r) b := by
 unfold qH.f
 exact VX r _ (by decide) 1000 0 (by decide)
def zr (g : Nat → Option (Int × Int)) : Prop := ∃ n v : Int, 0 ≤ n ∧ n ≤ 4 ∧ Ev g (n, v)
theorem zr.zero {g : Nat → Option (Int × Int)} (h : ∀ k, g (k + 1) = some (0, 0)) : zr g := ⟨0, 0, by omega, by omega, Ev.step h (Ev.now _)⟩
theorem zr.step {g f : Nat → Option (Int × Int)} (h : ∀ k, g (k + 1) = f k) (hf : zr f) : zr g := by
 obtain ⟨n, v, h0, h1, he⟩ := hf
 exact ⟨n, v, h0, h1, Ev.step h he⟩
theorem ZJ (s : ByteArray) (i n : Nat) (lo : Int) (hn : n ≤ 4) (hs : i + n ≤ s.size) (hb : s.size ≤ 1000) : ∀ (m j : Nat) (v : Int), n ≤ j + m → zr (fun k => qi.l0 k s (i : Int) (n : Int) lo v (j : Int))
 | m, j, v, hm => by
  by_cases h : j < n
  ·obtain ⟨m, rfl⟩ : ∃ m', m = m' + 1 := ⟨m - 1, by omega⟩
   have e1 : wrap64 ((i : Int) + (j : Int)) = ((i + j : Nat) : Int) := by rw [wrap64_in _ (by omega)]; omega
   have e2 := zt j (by omega)
   by_cases c1 : wrap64 (bt s ((i + j : Nat) : Int)) < 128
   ·exact zr.zero (fun k => by simp only [qi.l0, e1, e2]; ((repeat(first|refine Eq.trans (if_pos (by first|assumption|omega|trivial|exact decide_eq_true (by first|assumption|omega)|(simp only[decide_eq_true_eq];first|assumption|omega)|(simp;done)|(simp;omega))) ?_|refine Eq.trans (if_neg (by first|assumption|omega|(intro hh;have:=of_decide_eq_true hh;first|contradiction|omega)|(simp only[decide_eq_true_eq];first|assumption|omega)|(simp;done)|(simp;omega))) ?_));try rfl))
   ·by_cases c2 : wrap64 (bt s ((i + j : Nat) : Int)) > 191
    ·exact zr.zero (fun k => by simp only [qi.l0, e1, e2]; ((repeat(first|refine Eq.trans (if_pos (by first|assumption|omega|trivial|exact decide_eq_true (by first|assumption|omega)|(simp only[decide_eq_true_eq];first|assumption|omega)|(simp;done)|(simp;omega))) ?_|refine Eq.trans (if_neg (by first|assumption|omega|(intro hh;have:=of_decide_eq_true hh;first|contradiction|omega)|(simp only[decide_eq_true_eq];first|assumption|omega)|(simp;done)|(simp;omega))) ?_));try rfl))
    ·exact zr.step (fun k => by simp only [qi.l0, e1, e2]; ((repeat(first|refine Eq.trans (if_pos (by first|assumption|omega|trivial|exact decide_eq_true (by first|assumption|omega)|(simp only[decide_eq_true_eq];first|assumption|omega)|(simp;done)|(simp;omega))) ?_|refine Eq.trans (if_neg (by first|assumption|omega|(intro hh;have:=of_decide_eq_true hh;first|contradiction|omega)|(simp only[decide_eq_true_eq];first|assumption|omega)|(simp;done)|(simp;omega))) ?_));try rfl)) (ZJ s i n lo hn hs hb m (j + 1) _ (by omega))
  ·by_cases c1 : v < lo
   ·exact zr.zero (fun k => by simp only [qi.l0]; ((repeat(first|refine Eq.trans (if_pos (by first|assumption|omega|trivial|exact decide_eq_true (by first|assumption|omega)|(simp only[decide_eq_true_eq];first|assumption|omega)|(simp;done)|(simp;omega))) ?_|refine Eq.trans (if_neg (by first|assumption|omega|(intro hh;have:=of_decide_eq_true hh;first|contradiction|omega)|(simp only[decide_eq_true_eq];first|assumption|omega)|(simp;done)|(simp;omega))) ?_));try rfl))
   ·by_cases c2 : v > 1114111
    ·exact zr.zero (fun k => by simp only [qi.l0]; ((repeat(first|refine Eq.trans (if_pos (by first|assumption|omega|trivial|exact decide_eq_true (by first|assumption|omega)|(simp only[decide_eq_true_eq];first|assumption|omega)|(simp;done)|(simp;omega))) ?_|refine Eq.trans (if_neg (by first|assumption|omega|(intro hh;have:=of_decide_eq_true hh;first|contradiction|omega)|(simp only[decide_eq_true_eq];first|assumption|omega)|(simp;done)|(simp;omega))) ?_));try rfl))
    ·by_cases c3 : v ≥ 55296
     ·by_cases c4 : v ≤ 57343
      ·exact zr.zero (fun k => by simp only [qi.l0]; ((repeat(first|refine Eq.trans (if_pos (by first|assumption|omega|trivial|exact decide_eq_true (by first|assumption|omega)|(simp only[decide_eq_true_eq];first|assumption|omega)|(simp;done)|(simp;omega))) ?_|refine Eq.trans (if_neg (by first|assumption|omega|(intro hh;have:=of_decide_eq_true hh;first|contradiction|omega)|(simp only[decide_eq_true_eq];first|assumption|omega)|(simp;done)|(simp;omega))) ?_));try rfl))
      ·exact ⟨n, v, by omega, by omega, Ev.step (f := fun _ => some ((n : Int), v)) (fun k => by simp only [qi.l0]; ((repeat(first|refine Eq.trans (if_pos (by first|assumption|omega|trivial|exact decide_eq_true (by first|assumption|omega)|(simp only[decide_eq_true_eq];first|assumption|omega)|(simp;done)|(simp;omega))) ?_|refine Eq.trans (if_neg (by first|assumption|omega|(intro hh;have:=of_decide_eq_true hh;first|contradiction|omega)|(simp only[decide_eq_true_eq];first|assumption|omega)|(simp;done)|(simp;omega))) ?_));try rfl)) (Ev.now _)⟩
     ·exact ⟨n, v, by omega, by omega, Ev.step (f := fun _ => some ((n : Int), v)) (fun k => by simp only [qi.l0]; ((repeat(first|refine Eq.trans (if_pos (by first|assumption|omega|trivial|exact decide_eq_true (by first|assumption|omega)|(simp only[decide_eq_true_eq];first|assumption|omega)|(simp;done)|(simp;omega))) ?_|refine Eq.trans (if_neg (by first|assumption|omega|(intro hh;have:=of_decide_eq_true hh;first|contradiction|omega)|(simp only[decide_eq_true_eq];first|assumption|omega)|(simp;done)|(simp;omega))) ?_));try rfl)) (Ev.now _)⟩
theorem size_j2 (s : ByteArray) (i n : Nat) (lo v : Int) (hn : n ≤ 4) (hi : i < s.size) (hb : s.size ≤ 1000) : zr (fun k => qi.j2 k s (i : Int) (n : Int) lo v) := by
 have e1 : wrap64 ((i : Int) + (n : Int)) = ((i + n : Nat) : Int) := by rw [wrap64_in _ (by omega)]; omega
 by_cases h : i + n > s.size
 ·exact zr.zero (fun k => by simp only [qi.j2, e1]; ((repeat(first|refine Eq.trans (if_pos (by first|assumption|omega|trivial|exact decide_eq_true (by first|assumption|omega)|(simp only[decide_eq_true_eq];first|assumption|omega)|(simp;done)|(simp;omega))) ?_|refine Eq.trans (if_neg (by first|assumption|omega|(intro hh;have:=of_decide_eq_true hh;first|contradiction|omega)|(simp only[decide_eq_true_eq];first|assumption|omega)|(simp;done)|(simp;omega))) ?_));try rfl))
 ·exact zr.step (fun k => by simp only [qi.j2, e1]; ((repeat(first|refine Eq.trans (if_pos (by first|assumption|omega|trivial|exact decide_eq_true (by first|assumption|omega)|(simp only[decide_eq_true_eq];first|assumption|omega)|(simp;done)|(simp;omega))) ?_|refine Eq.trans (if_neg (by first|assumption|omega|(intro hh;have:=of_decide_eq_true hh;first|contradiction|omega)|(simp only[decide_eq_true_eq];first|assumption|omega)|(simp;done)|(simp;omega))) ?_));try rfl)) (ZJ s i n lo hn (by omega) hb n 1 v (by omega))
theorem size_ev (s : ByteArray) (i : Nat) (hi : i < s.size) (hb : s.size ≤ 1000) : zr (fun k => qi.f k s (i : Int)) := by
 unfold qi.f
 by_cases c1 : wrap64 (bt s (i : Int)) < 128
 ·exact ⟨1, _, by omega, by omega, vm (by omega) (vm (by omega) (vm c1 (Ev.now _)))⟩
 ·have w : ∀ b, zr (fun k => qi.j0 k s (i : Int) (wrap64 (bt s (i : Int))) b) := fun b => by
   cases b
   ·by_cases c2 : wrap64 (bt s (i : Int)) ≥ 224
    ·refine zr.step (fun k => by simp only [qi.j0]; ((repeat(first|refine Eq.trans (if_pos (by first|assumption|omega|trivial|exact decide_eq_true (by first|assumption|omega)|(simp only[decide_eq_true_eq];first|assumption|omega)|(simp;done)|(simp;omega))) ?_|refine Eq.trans (if_neg (by first|assumption|omega|(intro hh;have:=of_decide_eq_true hh;first|contradiction|omega)|(simp only[decide_eq_true_eq];first|assumption|omega)|(simp;done)|(simp;omega))) ?_));try rfl)) ?_
     by_cases c3 : wrap64 (bt s (i : Int)) ≤ 239
     ·exact zr.step (fun k => by simp only [qi.j1]; ((repeat(first|refine Eq.trans (if_pos (by first|assumption|omega|trivial|exact decide_eq_true (by first|assumption|omega)|(simp only[decide_eq_true_eq];first|assumption|omega)|(simp;done)|(simp;omega))) ?_|refine Eq.trans (if_neg (by first|assumption|omega|(intro hh;have:=of_decide_eq_true hh;first|contradiction|omega)|(simp only[decide_eq_true_eq];first|assumption|omega)|(simp;done)|(simp;omega))) ?_));try rfl)) (size_j2 s i 3 _ _ (by omega) hi hb)
     ·by_cases c4 : wrap64 (bt s (i : Int)) ≥ 240
      ·by_cases c5 : wrap64 (bt s (i : Int)) ≤ 244
       ·exact zr.step (fun k => by simp only [qi.j1]; ((repeat(first|refine Eq.trans (if_pos (by first|assumption|omega|trivial|exact decide_eq_true (by first|assumption|omega)|(simp only[decide_eq_true_eq];first|assumption|omega)|(simp;done)|(simp;omega))) ?_|refine Eq.trans (if_neg (by first|assumption|omega|(intro hh;have:=of_decide_eq_true hh;first|contradiction|omega)|(simp only[decide_eq_true_eq];first|assumption|omega)|(simp;done)|(simp;omega))) ?_));try rfl)) (size_j2 s i 4 _ _ (by omega) hi hb)
       ·exact zr.zero (fun k => by simp only [qi.j1]; ((repeat(first|refine Eq.trans (if_pos (by first|assumption|omega|trivial|exact decide_eq_true (by first|assumption|omega)|(simp only[decide_eq_true_eq];first|assumption|omega)|(simp;done)|(simp;omega))) ?_|refine Eq.trans (if_neg (by first|assumption|omega|(intro hh;have:=of_decide_eq_true hh;first|contradiction|omega)|(simp only[decide_eq_true_eq];first|assumption|omega)|(simp;done)|(simp;omega))) ?_));try rfl))
      ·omega
    ·refine zr.step (fun k => by simp only [qi.j0]; ((repeat(first|refine Eq.trans (if_pos (by first|assumption|omega|trivial|exact decide_eq_true (by first|assumption|omega)|(simp only[decide_eq_true_eq];first|assumption|omega)|(simp;done)|(simp;omega))) ?_|refine Eq.trans (if_neg (by first|assumption|omega|(intro hh;have:=of_decide_eq_true hh;first|contradiction|omega)|(simp only[decide_eq_true_eq];first|assumption|omega)|(simp;done)|(simp;omega))) ?_));try rfl)) ?_
     by_cases c4 : wrap64 (bt s (i : Int)) ≥ 240
     ·omega
     ·exact zr.zero (fun k => by simp only [qi.j1]; ((repeat(first|refine Eq.trans (if_pos (by first|assumption|omega|trivial|exact decide_eq_true (by first|assumption|omega)|(simp only[decide_eq_true_eq];first|assumption|omega)|(simp;done)|(simp;omega))) ?_|refine Eq.trans (if_neg (by first|assumption|omega|(intro hh;have:=of_decide_eq_true hh;first|contradiction|omega)|(simp only[decide_eq_true_eq];first|assumption|omega)|(simp;done)|(simp;omega))) ?_));try rfl))
   ·exact zr.step (fun k => by simp only [qi.j0]; ((repeat(first|refine Eq.trans (if_pos (by first|assumption|omega|trivial|exact decide_eq_true (by first|assumption|omega)|(simp only[decide_eq_true_eq];first|assumption|omega)|(simp;done)|(simp;omega))) ?_|refine Eq.trans (if_neg (by first|assumption|omega|(intro hh;have:=of_decide_eq_true hh;first|contradiction|omega)|(simp only[decide_eq_true_eq];first|assumption|omega)|(simp;done)|(simp;omega))) ?_));try rfl)) (size_j2 s i 2 _ _ (by omega) hi hb)
  by_cases c2 : wrap64 (bt s (i : Int)) ≥ 194
  ·obtain ⟨n, v, h0, h1, he⟩ := w (decide (wrap64 (bt s (i : Int)) ≤ 223))
   exact ⟨n, v, h0, h1, vm (by omega) (vm (by omega) (qW c1 (vm c2 he)))⟩
  ·obtain ⟨n, v, h0, h1, he⟩ := w false
   exact ⟨n, v, h0, h1, vm (by omega) (vm (by omega) (qW c1 (qW c2 he)))⟩
theorem key_loop (s : ByteArray) (hb : s.size ≤ 1000) : ∀ (m i : Nat), s.size ≤ i + m → i ≤ s.size + 4 → ∃ b, Ev (fun k => qy.l0 k s (i : Int)) b
 | m, i, hm, hi => by
  by_cases h : i < s.size
  ·obtain ⟨m, rfl⟩ : ∃ m', m = m' + 1 := ⟨m - 1, by omega⟩
   obtain ⟨n, v, h0, h1, he⟩ := size_ev s i h hb
   by_cases c1 : n = 0
   ·exact ⟨false, Ev.step (fun k => by simp only [qy.l0]; ((repeat(first|refine Eq.trans (if_pos (by first|assumption|omega|trivial|exact decide_eq_true (by first|assumption|omega)|(simp only[decide_eq_true_eq];first|assumption|omega)|(simp;done)|(simp;omega))) ?_|refine Eq.trans (if_neg (by first|assumption|omega|(intro hh;have:=of_decide_eq_true hh;first|contradiction|omega)|(simp only[decide_eq_true_eq];first|assumption|omega)|(simp;done)|(simp;omega))) ?_));try rfl)) (he.bind (vm c1 (Ev.now _)))⟩
   ·obtain ⟨b, hp⟩ := plain_ev v
    cases b
    ·refine ⟨false, Ev.step (fun k => by simp only [qy.l0]; ((repeat(first|refine Eq.trans (if_pos (by first|assumption|omega|trivial|exact decide_eq_true (by first|assumption|omega)|(simp only[decide_eq_true_eq];first|assumption|omega)|(simp;done)|(simp;omega))) ?_|refine Eq.trans (if_neg (by first|assumption|omega|(intro hh;have:=of_decide_eq_true hh;first|contradiction|omega)|(simp only[decide_eq_true_eq];first|assumption|omega)|(simp;done)|(simp;omega))) ?_));try rfl)) ?_⟩
     refine he.bind (qW c1 (hp.bind (qW (by simp) (Ev.now _))))
    ·obtain ⟨q, rfl⟩ : ∃ q : Nat, n = q := ⟨n.toNat, by omega⟩
     have e1 : wrap64 ((i : Int) + (q : Int)) = ((i + q : Nat) : Int) := by rw [wrap64_in _ (by omega)]; omega
     obtain ⟨b, hl⟩ := key_loop s hb m (i + q) (by omega) (by omega)
     refine ⟨b, Ev.step (fun k => by simp only [qy.l0]; ((repeat(first|refine Eq.trans (if_pos (by first|assumption|omega|trivial|exact decide_eq_true (by first|assumption|omega)|(simp only[decide_eq_true_eq];first|assumption|omega)|(simp;done)|(simp;omega))) ?_|refine Eq.trans (if_neg (by first|assumption|omega|(intro hh;have:=of_decide_eq_true hh;first|contradiction|omega)|(simp only[decide_eq_true_eq];first|assumption|omega)|(simp;done)|(simp;omega))) ?_));try rfl)) (he.bind (qW c1 (hp.bind (vm rfl ?_))))⟩
     dsimp only
     rw [e1]
     exact hl
  ·exact ⟨true, Ev.step (f := fun _ => some true) (fun k => by simp only [qy.l0]; ((repeat(first|refine Eq.trans (if_pos (by first|assumption|omega|trivial|exact decide_eq_true (by first|assumption|omega)|(simp only[decide_eq_true_eq];first|assumption|omega)|(simp;done)|(simp;omega))) ?_|refine Eq.trans (if_neg (by first|assumption|omega|(intro hh;have:=of_decide_eq_true hh;first|contradiction|omega)|(simp only[decide_eq_true_eq];first|assumption|omega)|(simp;done)|(simp;omega))) ?_));try rfl)) (Ev.now _)⟩
theorem key_ev (s : ByteArray) (hb : s.size ≤ 1000) : ∃ b, Ev (fun k => qy.f k s) b := by
 have w : ∀ d, ∃ b, Ev (fun k => qy.j0 k s d) b := fun d => by
  cases d
  ·obtain ⟨b, h⟩ := key_loop s hb s.size 0 (by omega) (by omega)
   exact ⟨b, Ev.step (fun k => by simp only [qy.j0]; ((repeat(first|refine Eq.trans (if_pos (by first|assumption|omega|trivial|exact decide_eq_true (by first|assumption|omega)|(simp only[decide_eq_true_eq];first|assumption|omega)|(simp;done)|(simp;omega))) ?_|refine Eq.trans (if_neg (by first|assumption|omega|(intro hh;have:=of_decide_eq_true hh;first|contradiction|omega)|(simp only[decide_eq_true_eq];first|assumption|omega)|(simp;done)|(simp;omega))) ?_));try rfl)) h⟩
  ·exact ⟨false, Ev.step (f := fun _ => some false) (fun k => by simp only [qy.j0]; ((repeat(first|refine Eq.trans (if_pos (by first|assumption|omega|trivial|exact decide_eq_true (by first|assumption|omega)|(simp only[decide_eq_true_eq];first|assumption|omega)|(simp;done)|(simp;omega))) ?_|refine Eq.trans (if_neg (by first|assumption|omega|(intro hh;have:=of_decide_eq_true hh;first|contradiction|omega)|(simp only[decide_eq_true_eq];first|assumption|omega)|(simp;done)|(simp;omega))) ?_));try rfl)) (Ev.now _)⟩
 unfold qy.f
 by_cases c : (s.size : Int) < 1
 ·obtain ⟨b, h⟩ := w true
  exact ⟨b, vm c h⟩
 ·obtain ⟨b, h⟩ := w (decide ((s.size : Int) > 24))
  exact ⟨b, qW c h⟩
theorem bad_loop (s : ByteArray) (hb : s.size ≤ 1000) : ∀ (m i : Nat), s.size ≤ i + m → i ≤ s.size + 4 → ∃ b, Ev (fun k => qP.l0 k s (i : Int)) b
 | m, i, hm, hi => by
  by_cases h : i < s.size
  ·obtain ⟨m, rfl⟩ : ∃ m', m = m' + 1 := ⟨m - 1, by omega⟩
   obtain ⟨n, v, h0, h1, he⟩ := size_ev s i h hb
   by_cases c1 : n = 0
   ·exact ⟨i, Ev.step (fun k => by simp only [qP.l0]; ((repeat(first|refine Eq.trans (if_pos (by first|assumption|omega|trivial|exact decide_eq_true (by first|assumption|omega)|(simp only[decide_eq_true_eq];first|assumption|omega)|(simp;done)|(simp;omega))) ?_|refine Eq.trans (if_neg (by first|assumption|omega|(intro hh;have:=of_decide_eq_true hh;first|contradiction|omega)|(simp only[decide_eq_true_eq];first|assumption|omega)|(simp;done)|(simp;omega))) ?_));try rfl)) (he.bind (vm c1 (Ev.now _)))⟩
   ·obtain ⟨q, rfl⟩ : ∃ q : Nat, n = q := ⟨n.toNat, by omega⟩
    have e1 : wrap64 ((i : Int) + (q : Int)) = ((i + q : Nat) : Int) := by rw [wrap64_in _ (by omega)]; omega
    obtain ⟨b, hl⟩ := bad_loop s hb m (i + q) (by omega) (by omega)
    refine ⟨b, Ev.step (fun k => by simp only [qP.l0]; ((repeat(first|refine Eq.trans (if_pos (by first|assumption|omega|trivial|exact decide_eq_true (by first|assumption|omega)|(simp only[decide_eq_true_eq];first|assumption|omega)|(simp;done)|(simp;omega))) ?_|refine Eq.trans (if_neg (by first|assumption|omega|(intro hh;have:=of_decide_eq_true hh;first|contradiction|omega)|(simp only[decide_eq_true_eq];first|assumption|omega)|(simp;done)|(simp;omega))) ?_));try rfl)) (he.bind (qW c1 ?_))⟩
    dsimp only
    rw [e1]
    exact hl
  ·exact ⟨-1, Ev.step (f := fun _ => some (-1)) (fun k => by simp only [qP.l0]; ((repeat(first|refine Eq.trans (if_pos (by first|assumption|omega|trivial|exact decide_eq_true (by first|assumption|omega)|(simp only[decide_eq_true_eq];first|assumption|omega)|(simp;done)|(simp;omega))) ?_|refine Eq.trans (if_neg (by first|assumption|omega|(intro hh;have:=of_decide_eq_true hh;first|contradiction|omega)|(simp only[decide_eq_true_eq];first|assumption|omega)|(simp;done)|(simp;omega))) ?_));try rfl)) (Ev.now _)⟩
theorem val_loop (s : ByteArray) (hb : s.size ≤ 1000) : ∀ (m i : Nat), s.size ≤ i + m → ∃ b, Ev (fun k => qv.l0 k s (i : Int)) b
 | m, i, hm => by
  by_cases h : i < s.size
  ·obtain ⟨m, rfl⟩ : ∃ m', m = m' + 1 := ⟨m - 1, by omega⟩
   have e2 := zt i (by omega)
   by_cases c1 : bt s (i : Int) < 32
   ·exact ⟨false, Ev.step (f := fun _ => some false) (fun k => by simp only [qv.l0]; ((repeat(first|refine Eq.trans (if_pos (by first|assumption|omega|trivial|exact decide_eq_true (by first|assumption|omega)|(simp only[decide_eq_true_eq];first|assumption|omega)|(simp;done)|(simp;omega))) ?_|refine Eq.trans (if_neg (by first|assumption|omega|(intro hh;have:=of_decide_eq_true hh;first|contradiction|omega)|(simp only[decide_eq_true_eq];first|assumption|omega)|(simp;done)|(simp;omega))) ?_));try rfl)) (Ev.now _)⟩
   ·by_cases c2 : bt s (i : Int) = 127
    ·exact ⟨false, Ev.step (f := fun _ => some false) (fun k => by simp only [qv.l0]; ((repeat(first|refine Eq.trans (if_pos (by first|assumption|omega|trivial|exact decide_eq_true (by first|assumption|omega)|(simp only[decide_eq_true_eq];first|assumption|omega)|(simp;done)|(simp;omega))) ?_|refine Eq.trans (if_neg (by first|assumption|omega|(intro hh;have:=of_decide_eq_true hh;first|contradiction|omega)|(simp only[decide_eq_true_eq];first|assumption|omega)|(simp;done)|(simp;omega))) ?_));try rfl)) (Ev.now _)⟩
    ·obtain ⟨b, hl⟩ := val_loop s hb m (i + 1) (by omega)
     exact ⟨b, Ev.step (fun k => by simp only [qv.l0, e2]; ((repeat(first|refine Eq.trans (if_pos (by first|assumption|omega|trivial|exact decide_eq_true (by first|assumption|omega)|(simp only[decide_eq_true_eq];first|assumption|omega)|(simp;done)|(simp;omega))) ?_|refine Eq.trans (if_neg (by first|assumption|omega|(intro hh;have:=of_decide_eq_true hh;first|contradiction|omega)|(simp only[decide_eq_true_eq];first|assumption|omega)|(simp;done)|(simp;omega))) ?_));try rfl)) hl⟩
  ·exact ⟨true, Ev.step (f := fun _ => some true) (fun k => by simp only [qv.l0]; ((repeat(first|refine Eq.trans (if_pos (by first|assumption|omega|trivial|exact decide_eq_true (by first|assumption|omega)|(simp only[decide_eq_true_eq];first|assumption|omega)|(simp;done)|(simp;omega))) ?_|refine Eq.trans (if_neg (by first|assumption|omega|(intro hh;have:=of_decide_eq_true hh;first|contradiction|omega)|(simp only[decide_eq_true_eq];first|assumption|omega)|(simp;done)|(simp;omega))) ?_));try rfl)) (Ev.now _)⟩
theorem val_ev (s : ByteArray) (hb : s.size ≤ 1000) : ∃ b, Ev (fun k => qv.f k s) b := by
 have w : ∀ d, ∃ b, Ev (fun k => qv.j0 k s d) b := fun d => by
  cases d
  ·obtain ⟨b, h⟩ := val_loop s hb s.size 0 (by omega)
   exact ⟨b, Ev.step (fun k => by simp only [qv.j0]; ((repeat(first|refine Eq.trans (if_pos (by first|assumption|omega|trivial|exact decide_eq_true (by first|assumption|omega)|(simp only[decide_eq_true_eq];first|assumption|omega)|(simp;done)|(simp;omega))) ?_|refine Eq.trans (if_neg (by first|assumption|omega|(intro hh;have:=of_decide_eq_true hh;first|contradiction|omega)|(simp only[decide_eq_true_eq];first|assumption|omega)|(simp;done)|(simp;omega))) ?_));try rfl)) h⟩
  ·exact ⟨false, Ev.step (f := fun _ => some false) (fun k => by simp only [qv.j0]; ((repeat(first|refine Eq.trans (if_pos (by first|assumption|omega|trivial|exact decide_eq_true (by first|assumption|omega)|(simp only[decide_eq_true_eq];first|assumption|omega)|(simp;done)|(simp;omega))) ?_|refine Eq.trans (if_neg (by first|assumption|omega|(intro hh;have:=of_decide_eq_true hh;first|contradiction|omega)|(simp only[decide_eq_true_eq];first|assumption|omega)|(simp;done)|(simp;omega))) ?_));try rfl)) (Ev.now _)⟩
 unfold qv.f
 by_cases c : (s.size : Int) > 48
 ·obtain ⟨b, h⟩ := w true
  exact ⟨b, vm c h⟩
 ·obtain ⟨q, hq⟩ := bad_loop s hb s.size 0 (by omega) (by omega)
  obtain ⟨b, h⟩ := w (decide (q ≥ 0))
  exact ⟨b, qW c (Ev.bind (g := fun k => qP.f k s) hq h)⟩
def Revs (l : List vP) : Prop := ∀ j, j < l.length → 1 ≤ (pg l j).f2 ∧ (pg l j).f2 ≤ 4294967296
theorem Vp (l : List vP) (hl : l.length ≤ 1000) (hz : ∀ j, j < l.length → (pg l j).f0.size ≤ 200 ∧ (pg l j).f1.size ≤ 200) : ∀ (m i : Nat), l.length ≤ i + m → (∀ j, j < i → j < l.length → 1 ≤ (pg l j).f2 ∧ (pg l j).f2 ≤ 4294967296) →
 ∃ b, Ev (fun k => qk.l0 k 2 l (i : Int)) b ∧ (b = true → l.length ≤ 64 ∧ UpP l ∧ Revs l)
 | m, i, hm, hr => by
  by_cases h : i < l.length
  ·obtain ⟨m, rfl⟩ : ∃ m', m = m' + 1 := ⟨m - 1, by omega⟩
   have e2 := zt i (by omega)
   obtain ⟨hz0, hz1⟩ := hz i h
   obtain ⟨b1, h1⟩ := key_ev (pg l i).f0 (by omega)
   have wt : Ev (fun k => qk.j1 k 2 l (i : Int) true) false := Ev.step (f := fun _ => some false) (fun k => by simp only [qk.j1]; ((repeat(first|refine Eq.trans (if_pos (by first|assumption|omega|trivial|exact decide_eq_true (by first|assumption|omega)|(simp only[decide_eq_true_eq];first|assumption|omega)|(simp;done)|(simp;omega))) ?_|refine Eq.trans (if_neg (by first|assumption|omega|(intro hh;have:=of_decide_eq_true hh;first|contradiction|omega)|(simp only[decide_eq_true_eq];first|assumption|omega)|(simp;done)|(simp;omega))) ?_));try rfl)) (Ev.now _)
   have st : ∀ k, qk.l0 (k + 1) 2 l (i : Int) = (qy.f k (pg l i).f0).bind fun t => (if t = true then ((qv.f k (pg l i).f1).bind fun t2 => (qk.j1 k 2 l (i : Int) (!t2))) else (qk.j1 k 2 l (i : Int) true)) := fun k => by
    simp only [qk.l0, Qe]
    ((repeat(first|refine Eq.trans (if_pos (by first|assumption|omega|trivial|exact decide_eq_true (by first|assumption|omega)|(simp only[decide_eq_true_eq];first|assumption|omega)|(simp;done)|(simp;omega))) ?_|refine Eq.trans (if_neg (by first|assumption|omega|(intro hh;have:=of_decide_eq_true hh;first|contradiction|omega)|(simp only[decide_eq_true_eq];first|assumption|omega)|(simp;done)|(simp;omega))) ?_));try rfl)
   cases b1
   ·refine ⟨false, Ev.step st ?_, by simp⟩
    exact h1.bind (qW (by simp) wt)
   ·obtain ⟨b2, h2⟩ := val_ev (pg l i).f1 (by omega)
    cases b2
    ·refine ⟨false, Ev.step st ?_, by simp⟩
     exact h1.bind (vm rfl (h2.bind wt))
    ·by_cases c1 : (pg l i).f2 < 1
     ·refine ⟨false, Ev.step st ?_, by simp⟩
      refine h1.bind (vm rfl (h2.bind ?_))
      exact Ev.step (f := fun _ => some false) (fun k => by simp only [qk.j1, Qe]; ((repeat(first|refine Eq.trans (if_pos (by first|assumption|omega|trivial|exact decide_eq_true (by first|assumption|omega)|(simp only[decide_eq_true_eq];first|assumption|omega)|(simp;done)|(simp;omega))) ?_|refine Eq.trans (if_neg (by first|assumption|omega|(intro hh;have:=of_decide_eq_true hh;first|contradiction|omega)|(simp only[decide_eq_true_eq];first|assumption|omega)|(simp;done)|(simp;omega))) ?_));try rfl)) (Ev.now _)
     ·by_cases c2 : (pg l i).f2 > 4294967296
      ·refine ⟨false, Ev.step st ?_, by simp⟩
       refine h1.bind (vm rfl (h2.bind ?_))
       exact Ev.step (f := fun _ => some false) (fun k => by simp only [qk.j1, Qe]; ((repeat(first|refine Eq.trans (if_pos (by first|assumption|omega|trivial|exact decide_eq_true (by first|assumption|omega)|(simp only[decide_eq_true_eq];first|assumption|omega)|(simp;done)|(simp;omega))) ?_|refine Eq.trans (if_neg (by first|assumption|omega|(intro hh;have:=of_decide_eq_true hh;first|contradiction|omega)|(simp only[decide_eq_true_eq];first|assumption|omega)|(simp;done)|(simp;omega))) ?_));try rfl)) (Ev.now _)
      ·obtain ⟨b, hb, hs⟩ := Vp l hl hz m (i + 1) (by omega) (fun j hj hk => by
        by_cases e : j = i
        ·subst e; omega
        ·exact hr j (by omega) hk)
       refine ⟨b, Ev.step st ?_, hs⟩
       refine h1.bind (vm rfl (h2.bind ?_))
       exact Ev.step (fun k => by simp only [qk.j1, Qe, e2]; ((repeat(first|refine Eq.trans (if_pos (by first|assumption|omega|trivial|exact decide_eq_true (by first|assumption|omega)|(simp only[decide_eq_true_eq];first|assumption|omega)|(simp;done)|(simp;omega))) ?_|refine Eq.trans (if_neg (by first|assumption|omega|(intro hh;have:=of_decide_eq_true hh;first|contradiction|omega)|(simp only[decide_eq_true_eq];first|assumption|omega)|(simp;done)|(simp;omega))) ?_));try rfl)) hb
  ·by_cases c : (l.length : Int) ≤ 64
   ·obtain ⟨b, hb, hs⟩ := VV l hl
    refine ⟨b, Ev.step (fun k => ?_) (hb.bind (Ev.now _)), fun e => ⟨by omega, hs e, fun j hj => hr j (by omega) hj⟩⟩
    simp only [qk.l0]
    ((repeat(first|refine Eq.trans (if_pos (by first|assumption|omega|trivial|exact decide_eq_true (by first|assumption|omega)|(simp only[decide_eq_true_eq];first|assumption|omega)|(simp;done)|(simp;omega))) ?_|refine Eq.trans (if_neg (by first|assumption|omega|(intro hh;have:=of_decide_eq_true hh;first|contradiction|omega)|(simp only[decide_eq_true_eq];first|assumption|omega)|(simp;done)|(simp;omega))) ?_));try rfl)
   ·refine ⟨false, Ev.step (f := fun _ => some false) (fun k => ?_) (Ev.now _), by simp⟩
    simp only [qk.l0]
    ((repeat(first|refine Eq.trans (if_pos (by first|assumption|omega|trivial|exact decide_eq_true (by first|assumption|omega)|(simp only[decide_eq_true_eq];first|assumption|omega)|(simp;done)|(simp;omega))) ?_|refine Eq.trans (if_neg (by first|assumption|omega|(intro hh;have:=of_decide_eq_true hh;first|contradiction|omega)|(simp only[decide_eq_true_eq];first|assumption|omega)|(simp;done)|(simp;omega))) ?_));try rfl)
theorem check2_ev (l : List vP) (hl : l.length ≤ 1000) (hz : ∀ j, j < l.length → (pg l j).f0.size ≤ 200 ∧ (pg l j).f1.size ≤ 200) : ∃ b, Ev (fun k => qk.f k 2 l) b ∧ (b = true → l.length ≤ 64 ∧ UpP l ∧ Revs l) :=
 Vp l hl hz l.length 0 (by omega) (fun j hj _ => by omega)
end Go.Proofs.YtalpmbeddldfoaaDoor.PA
