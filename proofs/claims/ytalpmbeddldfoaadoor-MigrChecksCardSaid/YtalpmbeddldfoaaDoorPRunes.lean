/- The texts' references by the model's own decoding. -/
import Derived.Test.YtalpmbeddldfoaaDoorHandU8
import Derived.Test.YtalpmbeddldfoaaDoorFChangeoverref05Size
import Derived.Test.YtalpmbeddldfoaaDoorFChangeoverref23Place
import Derived.Lib.TrimU
import Derived.Lib.RuneCountTail
set_option linter.unusedVariables false
set_option linter.unusedSimpArgs false
namespace Go.Proofs.YtalpmbeddldfoaaDoor.PA
open Go.RowKit Go.IntWalk Go.Proofs.YtalpmbeddldfoaaDoorW.PrintWords Go.Proofs.YtalpmbeddldfoaaDoor.Hand
def ZN (s : ByteArray) (i : Nat) : Nat × Nat := if (Utf8.decode s i).2 = 1 ∧ (Utf8.decode s i).1 = 65533 then (0, 0) else ((Utf8.decode s i).2, (Utf8.decode s i).1)
theorem get_at' (s : ByteArray) (i : Nat) (h : i < s.size) : s.get! i = s[i]'h := by
 cases s with
 | mk d => exact getElem!_pos d i h
theorem Vc (s : ByteArray) (i : Nat) (h : i < s.size) : bt s (i : Int) = ((s.get! i).toNat : Int) := by
 unfold bt
 rw [Int.toNat_natCast, dif_pos h, get_at' s i h]
def lz (s : ByteArray) (i n : Nat) (lo : Int) : Nat → Nat → Int → Int × Int
 | 0, _, v => if v < lo then (0, 0) else if v > 1114111 then (0, 0) else if 55296 ≤ v ∧ v ≤ 57343 then (0, 0) else ((n : Int), v)
 | m + 1, j, v => if bt s ((i + j : Nat) : Int) < 128 ∨ bt s ((i + j : Nat) : Int) > 191 then (0, 0) else lz s i n lo m (j + 1) (64 * v + bt s ((i + j : Nat) : Int) - 128)
def bd : Nat → Int
 | 0 => 1000000000000
 | m + 1 => bd m / 64 - 1
theorem bd_le : ∀ m, bd m ≤ 1000000000000
 | 0 => by simp [bd]
 | m + 1 => by have := bd_le m; simp only [bd]; omega
theorem lz_ev (s : ByteArray) (i n : Nat) (lo : Int) (hn : n ≤ 4) (hs : i + n ≤ s.size) (hb : s.size ≤ 1073741824) : ∀ (m j : Nat) (v : Int), n = j + m → 0 ≤ v → v ≤ bd m → Ev (fun k => qi.l0 k s (i : Int) (n : Int) lo v (j : Int)) (lz s i n lo m j v)
 | 0, j, v, hm, h0, h1 => by
  unfold lz
  by_cases c1 : v < lo
  ·rw [if_pos c1]; exact Ev.step (f := fun _ => some (0, 0)) (fun k => by simp only [qi.l0]; ((repeat(first|refine Eq.trans (if_pos (by first|assumption|omega|trivial|exact decide_eq_true (by first|assumption|omega)|(simp only[decide_eq_true_eq];first|assumption|omega)|(simp;done)|(simp;omega))) ?_|refine Eq.trans (if_neg (by first|assumption|omega|(intro hh;have:=of_decide_eq_true hh;first|contradiction|omega)|(simp only[decide_eq_true_eq];first|assumption|omega)|(simp;done)|(simp;omega))) ?_));try rfl)) (Ev.now _)
  ·rw [if_neg c1]
   by_cases c2 : v > 1114111
   ·rw [if_pos c2]; exact Ev.step (f := fun _ => some (0, 0)) (fun k => by simp only [qi.l0]; ((repeat(first|refine Eq.trans (if_pos (by first|assumption|omega|trivial|exact decide_eq_true (by first|assumption|omega)|(simp only[decide_eq_true_eq];first|assumption|omega)|(simp;done)|(simp;omega))) ?_|refine Eq.trans (if_neg (by first|assumption|omega|(intro hh;have:=of_decide_eq_true hh;first|contradiction|omega)|(simp only[decide_eq_true_eq];first|assumption|omega)|(simp;done)|(simp;omega))) ?_));try rfl)) (Ev.now _)
   ·rw [if_neg c2]
    by_cases c3 : v ≥ 55296
    ·by_cases c4 : v ≤ 57343
     ·rw [if_pos ⟨c3, c4⟩]; exact Ev.step (f := fun _ => some (0, 0)) (fun k => by simp only [qi.l0]; ((repeat(first|refine Eq.trans (if_pos (by first|assumption|omega|trivial|exact decide_eq_true (by first|assumption|omega)|(simp only[decide_eq_true_eq];first|assumption|omega)|(simp;done)|(simp;omega))) ?_|refine Eq.trans (if_neg (by first|assumption|omega|(intro hh;have:=of_decide_eq_true hh;first|contradiction|omega)|(simp only[decide_eq_true_eq];first|assumption|omega)|(simp;done)|(simp;omega))) ?_));try rfl)) (Ev.now _)
     ·rw [if_neg (by omega)]; exact Ev.step (f := fun _ => some ((n : Int), v)) (fun k => by simp only [qi.l0]; ((repeat(first|refine Eq.trans (if_pos (by first|assumption|omega|trivial|exact decide_eq_true (by first|assumption|omega)|(simp only[decide_eq_true_eq];first|assumption|omega)|(simp;done)|(simp;omega))) ?_|refine Eq.trans (if_neg (by first|assumption|omega|(intro hh;have:=of_decide_eq_true hh;first|contradiction|omega)|(simp only[decide_eq_true_eq];first|assumption|omega)|(simp;done)|(simp;omega))) ?_));try rfl)) (Ev.now _)
    ·rw [if_neg (by omega)]; exact Ev.step (f := fun _ => some ((n : Int), v)) (fun k => by simp only [qi.l0]; ((repeat(first|refine Eq.trans (if_pos (by first|assumption|omega|trivial|exact decide_eq_true (by first|assumption|omega)|(simp only[decide_eq_true_eq];first|assumption|omega)|(simp;done)|(simp;omega))) ?_|refine Eq.trans (if_neg (by first|assumption|omega|(intro hh;have:=of_decide_eq_true hh;first|contradiction|omega)|(simp only[decide_eq_true_eq];first|assumption|omega)|(simp;done)|(simp;omega))) ?_));try rfl)) (Ev.now _)
 | m + 1, j, v, hm, h0, h1 => by
  have e1 : wrap64 ((i : Int) + (j : Int)) = ((i + j : Nat) : Int) := by rw [wrap64_in _ (by omega)]; omega
  have e2 := zt j (by omega)
  have hr := Zd s ((i + j : Nat) : Int)
  have e3 : wrap64 (bt s ((i + j : Nat) : Int)) = bt s ((i + j : Nat) : Int) := wrap64_in _ (by omega)
  have hbd := bd_le m
  have h2 : v ≤ bd m / 64 - 1 := h1
  have e4 : wrap64 (64 * v) = 64 * v := wrap64_in _ (by omega)
  have e5 : wrap64 (64 * v + bt s ((i + j : Nat) : Int)) = 64 * v + bt s ((i + j : Nat) : Int) := wrap64_in _ (by omega)
  unfold lz
  by_cases c1 : bt s ((i + j : Nat) : Int) < 128
  ·rw [if_pos (.inl c1)]; exact Ev.step (f := fun _ => some (0, 0)) (fun k => by simp only [qi.l0, e1, e3]; ((repeat(first|refine Eq.trans (if_pos (by first|assumption|omega|trivial|exact decide_eq_true (by first|assumption|omega)|(simp only[decide_eq_true_eq];first|assumption|omega)|(simp;done)|(simp;omega))) ?_|refine Eq.trans (if_neg (by first|assumption|omega|(intro hh;have:=of_decide_eq_true hh;first|contradiction|omega)|(simp only[decide_eq_true_eq];first|assumption|omega)|(simp;done)|(simp;omega))) ?_));try rfl)) (Ev.now _)
  ·by_cases c2 : bt s ((i + j : Nat) : Int) > 191
   ·rw [if_pos (.inr c2)]; exact Ev.step (f := fun _ => some (0, 0)) (fun k => by simp only [qi.l0, e1, e3]; ((repeat(first|refine Eq.trans (if_pos (by first|assumption|omega|trivial|exact decide_eq_true (by first|assumption|omega)|(simp only[decide_eq_true_eq];first|assumption|omega)|(simp;done)|(simp;omega))) ?_|refine Eq.trans (if_neg (by first|assumption|omega|(intro hh;have:=of_decide_eq_true hh;first|contradiction|omega)|(simp only[decide_eq_true_eq];first|assumption|omega)|(simp;done)|(simp;omega))) ?_));try rfl)) (Ev.now _)
   ·rw [if_neg (by omega)]
    have e6 : wrap64 (64 * v + bt s ((i + j : Nat) : Int) - 128) = 64 * v + bt s ((i + j : Nat) : Int) - 128 := wrap64_in _ (by omega)
    exact Ev.step (fun k => by simp only [qi.l0, e1, e2, e3, e4, e5, e6]; ((repeat(first|refine Eq.trans (if_pos (by first|assumption|omega|trivial|exact decide_eq_true (by first|assumption|omega)|(simp only[decide_eq_true_eq];first|assumption|omega)|(simp;done)|(simp;omega))) ?_|refine Eq.trans (if_neg (by first|assumption|omega|(intro hh;have:=of_decide_eq_true hh;first|contradiction|omega)|(simp only[decide_eq_true_eq];first|assumption|omega)|(simp;done)|(simp;omega))) ?_));try rfl)) (lz_ev s i n lo hn hs hb m (j + 1) _ (by omega) (by omega) (by omega))
theorem j2_ev (s : ByteArray) (i n : Nat) (lo v : Int) (hn1 : 1 ≤ n) (hn : n ≤ 4) (hi : i < s.size) (hb : s.size ≤ 1073741824) (h0 : 0 ≤ v) (h1 : v ≤ 31) : Ev (fun k => qi.j2 k s (i : Int) (n : Int) lo v) (if i + n > s.size then (0, 0) else lz s i n lo (n - 1) 1 v) := by
 have e1 : wrap64 ((i : Int) + (n : Int)) = ((i + n : Nat) : Int) := by rw [wrap64_in _ (by omega)]; omega
 by_cases h : i + n > s.size
 ·rw [if_pos h]; exact Ev.step (f := fun _ => some (0, 0)) (fun k => by simp only [qi.j2, e1]; ((repeat(first|refine Eq.trans (if_pos (by first|assumption|omega|trivial|exact decide_eq_true (by first|assumption|omega)|(simp only[decide_eq_true_eq];first|assumption|omega)|(simp;done)|(simp;omega))) ?_|refine Eq.trans (if_neg (by first|assumption|omega|(intro hh;have:=of_decide_eq_true hh;first|contradiction|omega)|(simp only[decide_eq_true_eq];first|assumption|omega)|(simp;done)|(simp;omega))) ?_));try rfl)) (Ev.now _)
 ·rw [if_neg h]
  have hbd : v ≤ bd (n - 1) := by
   rcases (show n = 1 ∨ n = 2 ∨ n = 3 ∨ n = 4 by omega) with rfl | rfl | rfl | rfl <;> simp [bd] <;> omega
  exact Ev.step (fun k => by simp only [qi.j2, e1]; ((repeat(first|refine Eq.trans (if_pos (by first|assumption|omega|trivial|exact decide_eq_true (by first|assumption|omega)|(simp only[decide_eq_true_eq];first|assumption|omega)|(simp;done)|(simp;omega))) ?_|refine Eq.trans (if_neg (by first|assumption|omega|(intro hh;have:=of_decide_eq_true hh;first|contradiction|omega)|(simp only[decide_eq_true_eq];first|assumption|omega)|(simp;done)|(simp;omega))) ?_));try rfl)) (lz_ev s i n lo hn (by omega) hb (n - 1) 1 v (by omega) h0 hbd)
def rz (s : ByteArray) (i : Nat) : Int × Int :=
 if bt s (i : Int) < 128 then (1, bt s (i : Int))
 else if 194 ≤ bt s (i : Int) ∧ bt s (i : Int) ≤ 223 then (if i + 2 > s.size then (0, 0) else lz s i 2 128 1 1 (bt s (i : Int) - 192))
 else if 224 ≤ bt s (i : Int) ∧ bt s (i : Int) ≤ 239 then (if i + 3 > s.size then (0, 0) else lz s i 3 2048 2 1 (bt s (i : Int) - 224))
 else if 240 ≤ bt s (i : Int) ∧ bt s (i : Int) ≤ 244 then (if i + 4 > s.size then (0, 0) else lz s i 4 65536 3 1 (bt s (i : Int) - 240))
 else (0, 0)
theorem rz_ev (s : ByteArray) (i : Nat) (hi : i < s.size) (hb : s.size ≤ 1073741824) : Ev (fun k => qi.f k s (i : Int)) (rz s i) := by
 have hr := Zd s (i : Int)
 have e3 : wrap64 (bt s (i : Int)) = bt s (i : Int) := wrap64_in _ (by omega)
 unfold rz qi.f
 simp only [e3]
 refine vm (by omega) (vm (by omega) ?_)
 by_cases c0 : bt s (i : Int) < 128
 ·rw [if_pos c0]; exact vm c0 (Ev.now _)
 ·rw [if_neg c0]
  refine qW c0 ?_
  have a192 : ∀ x : Int, 0 ≤ x → x ≤ 255 → wrap64 x = x := fun x h1 h2 => wrap64_in _ (by omega)
  by_cases c1 : bt s (i : Int) ≥ 194
  ·by_cases c2 : bt s (i : Int) ≤ 223
   ·rw [if_pos ⟨c1, c2⟩]
    refine vm c1 ?_
    rw [decide_eq_true c2]
    refine Ev.step (fun k => by simp only [qi.j0]; ((repeat(first|refine Eq.trans (if_pos (by first|assumption|omega|trivial|exact decide_eq_true (by first|assumption|omega)|(simp only[decide_eq_true_eq];first|assumption|omega)|(simp;done)|(simp;omega))) ?_|refine Eq.trans (if_neg (by first|assumption|omega|(intro hh;have:=of_decide_eq_true hh;first|contradiction|omega)|(simp only[decide_eq_true_eq];first|assumption|omega)|(simp;done)|(simp;omega))) ?_));try rfl)) ?_
    rw [a192 _ (by omega) (by omega)]
    exact j2_ev s i 2 128 _ (by omega) (by omega) hi hb (by omega) (by omega)
   ·rw [if_neg (by omega)]
    refine vm c1 ?_
    rw [decide_eq_false c2]
    refine Ev.step (fun k => by simp only [qi.j0]; ((repeat(first|refine Eq.trans (if_pos (by first|assumption|omega|trivial|exact decide_eq_true (by first|assumption|omega)|(simp only[decide_eq_true_eq];first|assumption|omega)|(simp;done)|(simp;omega))) ?_|refine Eq.trans (if_neg (by first|assumption|omega|(intro hh;have:=of_decide_eq_true hh;first|contradiction|omega)|(simp only[decide_eq_true_eq];first|assumption|omega)|(simp;done)|(simp;omega))) ?_));try rfl)) ?_
    by_cases c3 : bt s (i : Int) ≤ 239
    ·rw [if_pos ⟨by omega, c3⟩, decide_eq_true c3]
     refine Ev.step (fun k => by simp only [qi.j1]; ((repeat(first|refine Eq.trans (if_pos (by first|assumption|omega|trivial|exact decide_eq_true (by first|assumption|omega)|(simp only[decide_eq_true_eq];first|assumption|omega)|(simp;done)|(simp;omega))) ?_|refine Eq.trans (if_neg (by first|assumption|omega|(intro hh;have:=of_decide_eq_true hh;first|contradiction|omega)|(simp only[decide_eq_true_eq];first|assumption|omega)|(simp;done)|(simp;omega))) ?_));try rfl)) ?_
     rw [a192 _ (by omega) (by omega)]
     exact j2_ev s i 3 2048 _ (by omega) (by omega) hi hb (by omega) (by omega)
    ·rw [if_neg (by omega), decide_eq_false c3]
     by_cases c4 : bt s (i : Int) ≤ 244
     ·rw [if_pos ⟨by omega, c4⟩]
      refine Ev.step (fun k => by simp only [qi.j1]; ((repeat(first|refine Eq.trans (if_pos (by first|assumption|omega|trivial|exact decide_eq_true (by first|assumption|omega)|(simp only[decide_eq_true_eq];first|assumption|omega)|(simp;done)|(simp;omega))) ?_|refine Eq.trans (if_neg (by first|assumption|omega|(intro hh;have:=of_decide_eq_true hh;first|contradiction|omega)|(simp only[decide_eq_true_eq];first|assumption|omega)|(simp;done)|(simp;omega))) ?_));try rfl)) ?_
      rw [a192 _ (by omega) (by omega)]
      exact j2_ev s i 4 65536 _ (by omega) (by omega) hi hb (by omega) (by omega)
     ·rw [if_neg (by omega)]
      exact Ev.step (f := fun _ => some (0, 0)) (fun k => by simp only [qi.j1]; ((repeat(first|refine Eq.trans (if_pos (by first|assumption|omega|trivial|exact decide_eq_true (by first|assumption|omega)|(simp only[decide_eq_true_eq];first|assumption|omega)|(simp;done)|(simp;omega))) ?_|refine Eq.trans (if_neg (by first|assumption|omega|(intro hh;have:=of_decide_eq_true hh;first|contradiction|omega)|(simp only[decide_eq_true_eq];first|assumption|omega)|(simp;done)|(simp;omega))) ?_));try rfl)) (Ev.now _)
  ·rw [if_neg (by omega), if_neg (by omega), if_neg (by omega)]
   refine qW c1 ?_
   refine Ev.step (fun k => by simp only [qi.j0]; ((repeat(first|refine Eq.trans (if_pos (by first|assumption|omega|trivial|exact decide_eq_true (by first|assumption|omega)|(simp only[decide_eq_true_eq];first|assumption|omega)|(simp;done)|(simp;omega))) ?_|refine Eq.trans (if_neg (by first|assumption|omega|(intro hh;have:=of_decide_eq_true hh;first|contradiction|omega)|(simp only[decide_eq_true_eq];first|assumption|omega)|(simp;done)|(simp;omega))) ?_));try rfl)) ?_
   exact Ev.step (f := fun _ => some (0, 0)) (fun k => by simp only [qi.j1]; ((repeat(first|refine Eq.trans (if_pos (by first|assumption|omega|trivial|exact decide_eq_true (by first|assumption|omega)|(simp only[decide_eq_true_eq];first|assumption|omega)|(simp;done)|(simp;omega))) ?_|refine Eq.trans (if_neg (by first|assumption|omega|(intro hh;have:=of_decide_eq_true hh;first|contradiction|omega)|(simp only[decide_eq_true_eq];first|assumption|omega)|(simp;done)|(simp;omega))) ?_));try rfl)) (Ev.now _)
theorem szp_cases (s : ByteArray) (i : Nat) : ZN s i = if (Utf8.decode s i).2 = 1 ∧ (Utf8.decode s i).1 = 65533 then (0, 0) else ((Utf8.decode s i).2, (Utf8.decode s i).1) := rfl
theorem rz_is (s : ByteArray) (i : Nat) (hi : i < s.size) : rz s i = (((ZN s i).1 : Int), ((ZN s i).2 : Int)) := by
 have h0 : (s.get! i).toNat < 256 := (s.get! i).toNat_lt
 have h1 : (s.get! (i + 1)).toNat < 256 := (s.get! (i + 1)).toNat_lt
 have h2 : (s.get! (i + 2)).toNat < 256 := (s.get! (i + 2)).toNat_lt
 have h3 : (s.get! (i + 3)).toNat < 256 := (s.get! (i + 3)).toNat_lt
 have e0 := Vc s i hi
 have e1 : ∀ j, i + j < s.size → bt s ((i + j : Nat) : Int) = ((s.get! (i + j)).toNat : Int) := fun j h => Vc s (i + j) h
 rw [szp_cases, Lib.decode_at]
 generalize ha : (s.get! i).toNat = a at *
 generalize hb : (s.get! (i + 1)).toNat = b at *
 generalize hc : (s.get! (i + 2)).toNat = c at *
 generalize hd : (s.get! (i + 3)).toNat = d at *
 have eb : i + 1 < s.size → bt s ((i + 1 : Nat) : Int) = (b : Int) := fun h => by rw [e1 1 h, hb]
 have ec : i + 2 < s.size → bt s ((i + 2 : Nat) : Int) = (c : Int) := fun h => by rw [e1 2 h, hc]
 have ed : i + 3 < s.size → bt s ((i + 3 : Nat) : Int) = (d : Int) := fun h => by rw [e1 3 h, hd]
 clear e1
 unfold rz
 rw [e0]
 clear e0
 by_cases c0 : a < 128
 ·rw [if_pos (by omega)]
  simp only [Lib.decodeN, c0, if_true]
  rw [if_neg (by omega)]
  rfl
 ·rw [if_neg (by omega)]
  by_cases c1 : 194 ≤ a ∧ a ≤ 223
  ·rw [if_pos (by omega)]
   by_cases g : i + 2 > s.size
   ·rw [if_pos g]
    have : Lib.decodeN (s.size - i) a b c d = (65533, 1) := by unfold Lib.decodeN; rw [if_neg c0, if_neg (by omega), if_neg (by omega), if_neg (by omega)]
    rw [this]; rfl
   ·rw [if_neg g]
    have eb' := eb (by omega)
    unfold lz
    rw [eb']
    by_cases q1 : b / 64 = 2
    ·rw [if_neg (by omega)]
     have : Lib.decodeN (s.size - i) a b c d = (a % 32 * 64 + b % 64, 2) := by unfold Lib.decodeN; rw [if_neg c0, if_pos (by omega), if_pos (by omega)]
     rw [this]
     unfold lz
     rw [if_neg (by omega), if_neg (by omega), if_neg (by omega), if_neg (by simp)]
     refine Prod.ext rfl ?_
     show _ = ((a % 32 * 64 + b % 64 : Nat) : Int)
     omega
    ·rw [if_pos (by omega)]
     have : Lib.decodeN (s.size - i) a b c d = (65533, 1) := by unfold Lib.decodeN; rw [if_neg c0, if_neg (by omega), if_neg (by omega), if_neg (by omega)]
     rw [this]; rfl
  ·rw [if_neg (by omega)]
   by_cases c2 : 224 ≤ a ∧ a ≤ 239
   ·rw [if_pos (by omega)]
    by_cases g : i + 3 > s.size
    ·rw [if_pos g]
     have : Lib.decodeN (s.size - i) a b c d = (65533, 1) := by unfold Lib.decodeN; rw [if_neg c0, if_neg (by omega), if_neg (by omega), if_neg (by omega)]
     rw [this]; rfl
    ·rw [if_neg g]
     have eb' := eb (by omega)
     have ec' := ec (by omega)
     unfold lz
     rw [eb']
     by_cases q1 : b / 64 = 2
     ·rw [if_neg (by omega)]
      unfold lz
      rw [ec']
      by_cases q2 : c / 64 = 2
      ·rw [if_neg (by omega)]
       unfold lz
       by_cases q3 : a % 16 * 4096 + b % 64 * 64 + c % 64 ≥ 2048 ∧ (a % 16 * 4096 + b % 64 * 64 + c % 64 < 55296 ∨ (57344 ≤ a % 16 * 4096 + b % 64 * 64 + c % 64 ∧ a % 16 * 4096 + b % 64 * 64 + c % 64 ≤ 1114111))
       ·have : Lib.decodeN (s.size - i) a b c d = (a % 16 * 4096 + b % 64 * 64 + c % 64, 3) := by unfold Lib.decodeN; rw [if_neg c0, if_neg (by omega), if_pos (by omega), if_pos q3]
        rw [this, if_neg (by omega), if_neg (by omega), if_neg (by omega), if_neg (by simp)]
        refine Prod.ext rfl ?_
        show _ = ((a % 16 * 4096 + b % 64 * 64 + c % 64 : Nat) : Int)
        omega
       ·have : Lib.decodeN (s.size - i) a b c d = (65533, 1) := by unfold Lib.decodeN; rw [if_neg c0, if_neg (by omega), if_pos (by omega), if_neg q3]
        rw [this]
        by_cases q4 : a % 16 * 4096 + b % 64 * 64 + c % 64 < 2048
        ·rw [if_pos (by omega)]; rfl
        ·rw [if_neg (by omega), if_neg (by omega), if_pos (by omega)]; rfl
      ·rw [if_pos (by omega)]
       have : Lib.decodeN (s.size - i) a b c d = (65533, 1) := by unfold Lib.decodeN; rw [if_neg c0, if_neg (by omega), if_neg (by omega), if_neg (by omega)]
       rw [this]; rfl
     ·rw [if_pos (by omega)]
      have : Lib.decodeN (s.size - i) a b c d = (65533, 1) := by unfold Lib.decodeN; rw [if_neg c0, if_neg (by omega), if_neg (by omega), if_neg (by omega)]
      rw [this]; rfl
   ·rw [if_neg (by omega)]
    by_cases c3 : 240 ≤ a ∧ a ≤ 244
    ·rw [if_pos (by omega)]
     by_cases g : i + 4 > s.size
     ·rw [if_pos g]
      have : Lib.decodeN (s.size - i) a b c d = (65533, 1) := by unfold Lib.decodeN; rw [if_neg c0, if_neg (by omega), if_neg (by omega), if_neg (by omega)]
      rw [this]; rfl
     ·rw [if_neg g]
      have eb' := eb (by omega)
      have ec' := ec (by omega)
      have ed' := ed (by omega)
      unfold lz
      rw [eb']
      by_cases q1 : b / 64 = 2
      ·rw [if_neg (by omega)]
       unfold lz
       rw [ec']
       by_cases q2 : c / 64 = 2
       ·rw [if_neg (by omega)]
        unfold lz
        rw [ed']
        by_cases q5 : d / 64 = 2
        ·rw [if_neg (by omega)]
         unfold lz
         by_cases q3 : a % 8 * 262144 + b % 64 * 4096 + c % 64 * 64 + d % 64 ≥ 65536 ∧ (a % 8 * 262144 + b % 64 * 4096 + c % 64 * 64 + d % 64 < 55296 ∨ (57344 ≤ a % 8 * 262144 + b % 64 * 4096 + c % 64 * 64 + d % 64 ∧ a % 8 * 262144 + b % 64 * 4096 + c % 64 * 64 + d % 64 ≤ 1114111))
         ·have : Lib.decodeN (s.size - i) a b c d = (a % 8 * 262144 + b % 64 * 4096 + c % 64 * 64 + d % 64, 4) := by unfold Lib.decodeN; rw [if_neg c0, if_neg (by omega), if_neg (by omega), if_pos (by omega), if_pos q3]
          rw [this, if_neg (by omega), if_neg (by omega), if_neg (by omega), if_neg (by simp)]
          refine Prod.ext rfl ?_
          show _ = ((a % 8 * 262144 + b % 64 * 4096 + c % 64 * 64 + d % 64 : Nat) : Int)
          omega
         ·have : Lib.decodeN (s.size - i) a b c d = (65533, 1) := by unfold Lib.decodeN; rw [if_neg c0, if_neg (by omega), if_neg (by omega), if_pos (by omega), if_neg q3]
          rw [this]
          by_cases q4 : a % 8 * 262144 + b % 64 * 4096 + c % 64 * 64 + d % 64 < 65536
          ·rw [if_pos (by omega)]; rfl
          ·rw [if_neg (by omega), if_pos (by omega)]; rfl
        ·rw [if_pos (by omega)]
         have : Lib.decodeN (s.size - i) a b c d = (65533, 1) := by unfold Lib.decodeN; rw [if_neg c0, if_neg (by omega), if_neg (by omega), if_neg (by omega)]
         rw [this]; rfl
       ·rw [if_pos (by omega)]
        have : Lib.decodeN (s.size - i) a b c d = (65533, 1) := by unfold Lib.decodeN; rw [if_neg c0, if_neg (by omega), if_neg (by omega), if_neg (by omega)]
        rw [this]; rfl
      ·rw [if_pos (by omega)]
       have : Lib.decodeN (s.size - i) a b c d = (65533, 1) := by unfold Lib.decodeN; rw [if_neg c0, if_neg (by omega), if_neg (by omega), if_neg (by omega)]
       rw [this]; rfl
    ·rw [if_neg (by omega)]
     have : Lib.decodeN (s.size - i) a b c d = (65533, 1) := by
      unfold Lib.decodeN
      rw [if_neg c0]
      by_cases k1 : a / 32 = 6 ∧ (1 < s.size - i ∧ b / 64 = 2)
      ·rw [if_pos k1, if_neg (by omega)]
      ·rw [if_neg k1, if_neg (by omega)]
       by_cases k2 : a / 8 = 30 ∧ (1 < s.size - i ∧ b / 64 = 2) ∧ (2 < s.size - i ∧ c / 64 = 2) ∧ (3 < s.size - i ∧ d / 64 = 2)
       ·rw [if_pos k2, if_neg (by omega)]
       ·rw [if_neg k2]
     rw [this]; rfl
theorem size_is (s : ByteArray) (i : Nat) (hi : i < s.size) (hb : s.size ≤ 1073741824) : Ev (fun k => qi.f k s (i : Int)) (((ZN s i).1 : Int), ((ZN s i).2 : Int)) :=
 jo (rz_ev s i hi hb) (rz_is s i hi)
theorem QN (s : ByteArray) (i : Nat) (hi : i < s.size) : i + (Utf8.decode s i).2 ≤ s.size := by
 rw [Lib.decode_at]
 unfold Lib.decodeN
 repeat' split
 all_goals simp
 all_goals omega
theorem szp_fst (s : ByteArray) (i : Nat) : ((ZN s i).1 = 0 ↔ ((Utf8.decode s i).2 = 1 ∧ (Utf8.decode s i).1 = 65533)) ∧ ((ZN s i).1 ≠ 0 → (ZN s i).1 = (Utf8.decode s i).2 ∧ (ZN s i).2 = (Utf8.decode s i).1) := by
 have := Lib.width_pos s i
 unfold ZN
 by_cases h : (Utf8.decode s i).2 = 1 ∧ (Utf8.decode s i).1 = 65533
 ·rw [if_pos h]; exact ⟨⟨fun _ => h, fun _ => rfl⟩, fun h => absurd rfl h⟩
 ·rw [if_neg h]
  refine ⟨⟨fun e => ?_, fun e => absurd e h⟩, fun _ => ⟨rfl, rfl⟩⟩
  have : (Utf8.decode s i).2 = 0 := e
  omega
def zw (s : ByteArray) : Nat → Nat → Int
 | 0, _ => -1
 | g + 1, pos => if pos < s.size then (if (Utf8.decode s pos).2 = 1 ∧ (Utf8.decode s pos).1 = 65533 then (pos : Int) else zw s g (pos + (Utf8.decode s pos).2)) else -1
theorem Qi (s : ByteArray) (g pos : Nat) (h : ¬ pos < s.size) : zw s g pos = -1 := by
 cases g <;> simp [zw, h]
theorem bad_ev (s : ByteArray) (hb : s.size ≤ 1073741824) : ∀ (g i : Nat), s.size ≤ i + g → i ≤ s.size → Ev (fun k => qP.l0 k s (i : Int)) (zw s g i)
 | g, i, hm, hle => by
  by_cases h : i < s.size
  ·obtain ⟨g, rfl⟩ : ∃ m', g = m' + 1 := ⟨g - 1, by omega⟩
   have he := size_is s i h hb
   have hf := szp_fst s i
   have hw := QN s i h
   have hp := Lib.width_pos s i
   simp only [zw, h, if_true]
   by_cases c1 : (Utf8.decode s i).2 = 1 ∧ (Utf8.decode s i).1 = 65533
   ·rw [if_pos c1]
    have c2 : ((ZN s i).1 : Int) = 0 := by have := hf.1.mpr c1; omega
    exact Ev.step (fun k => by simp only [qP.l0]; ((repeat(first|refine Eq.trans (if_pos (by first|assumption|omega|trivial|exact decide_eq_true (by first|assumption|omega)|(simp only[decide_eq_true_eq];first|assumption|omega)|(simp;done)|(simp;omega))) ?_|refine Eq.trans (if_neg (by first|assumption|omega|(intro hh;have:=of_decide_eq_true hh;first|contradiction|omega)|(simp only[decide_eq_true_eq];first|assumption|omega)|(simp;done)|(simp;omega))) ?_));try rfl)) (he.bind (vm c2 (Ev.now _)))
   ·rw [if_neg c1]
    have c2 : ¬ (ZN s i).1 = 0 := fun e => c1 (hf.1.mp e)
    have c3 := (hf.2 c2).1
    have c4 : ¬ ((ZN s i).1 : Int) = 0 := by omega
    have e1 : wrap64 ((i : Int) + ((ZN s i).1 : Int)) = ((i + (Utf8.decode s i).2 : Nat) : Int) := by rw [c3, wrap64_in _ (by omega)]; omega
    have ih := bad_ev s hb g (i + (Utf8.decode s i).2) (by omega) hw
    refine Ev.step (fun k => by simp only [qP.l0]; ((repeat(first|refine Eq.trans (if_pos (by first|assumption|omega|trivial|exact decide_eq_true (by first|assumption|omega)|(simp only[decide_eq_true_eq];first|assumption|omega)|(simp;done)|(simp;omega))) ?_|refine Eq.trans (if_neg (by first|assumption|omega|(intro hh;have:=of_decide_eq_true hh;first|contradiction|omega)|(simp only[decide_eq_true_eq];first|assumption|omega)|(simp;done)|(simp;omega))) ?_));try rfl)) (he.bind (qW c4 ?_))
    dsimp only
    rw [e1]
    exact ih
  ·rw [Qi s g i h]
   exact Ev.step (f := fun _ => some (-1)) (fun k => by simp only [qP.l0]; ((repeat(first|refine Eq.trans (if_pos (by first|assumption|omega|trivial|exact decide_eq_true (by first|assumption|omega)|(simp only[decide_eq_true_eq];first|assumption|omega)|(simp;done)|(simp;omega))) ?_|refine Eq.trans (if_neg (by first|assumption|omega|(intro hh;have:=of_decide_eq_true hh;first|contradiction|omega)|(simp only[decide_eq_true_eq];first|assumption|omega)|(simp;done)|(simp;omega))) ?_));try rfl)) (Ev.now _)
theorem refBad_ev (s : ByteArray) (hb : s.size ≤ 1073741824) : Ev (fun k => qP.f k s) (zw s s.size 0) := bad_ev s hb s.size 0 (by omega) (by omega)
end Go.Proofs.YtalpmbeddldfoaaDoor.PA
