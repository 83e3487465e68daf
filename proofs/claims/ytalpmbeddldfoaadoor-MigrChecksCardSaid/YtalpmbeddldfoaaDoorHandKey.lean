/- runes.all, Whole, Key, Val walked. -/
import Derived.Test.YtalpmbeddldfoaaDoorHandD
import Derived.Test.YtalpmbeddldfoaaDoorFRunesPlain
import Derived.Laws.Runes
set_option linter.unusedVariables false
namespace Go.Proofs.YtalpmbeddldfoaaDoor.PA
open Go.RowKit Go.IntWalk Go.Proofs.YtalpmbeddldfoaaDoorW.PrintWords Go.Proofs.YtalpmbeddldfoaaDoor.Hand
def PredP (g : Nat) (p : Nat → Bool) : Prop := ∀ (W : World) (x : Nat), x ≤ 1114111 → Calls Tryd.prog g #[.int .i32 (x : Int)] W fun e w' => e = .returned (.bool (p x)) ∧ Below W.heap.size W w'
def zE (s : ByteArray) (p : Nat → Bool) : Nat → Nat → Bool
 | 0, _ => true
 | g + 1, pos => if pos < s.size then (if p (Utf8.decode s pos).1 = true then zE s p g (pos + (Utf8.decode s pos).2) else false) else true
theorem Qo (s : ByteArray) (p : Nat → Bool) (g pos : Nat) (h : ¬ pos < s.size) : zE s p g pos = true := by
 cases g <;> simp [zE, h]
set_option maxHeartbeats 2000000 in
set_option maxRecDepth 100000 in
theorem all_walk (s : ByteArray) (gf : Nat) (p : Nat → Bool) (eg : ∀ args w, (callFunc gf args).run Tryd.prog w = .ok (.enter gf args) w) (hp : PredP gf p) (w : World) :
 Calls Tryd.prog 69 #[.string s, .func (.func gf) #[] #[]] w fun e w' => e = .returned (.bool (zE s p s.size 0)) ∧ Below w.heap.size w w' := by
 have HP := qb.mk hp
 clear hp
 go_enter Tryd.func69, Tryd.ntmps69
 go_wp2
 go_loopg [] s.size (fun g wx => ∃ pos : Nat, wx.heap[w.heap.size]? = some (.stringIter s pos) ∧ Below w.heap.size w wx ∧ zE s p g pos = zE s p s.size 0 ∧ s.size ≤ pos + g)
 case atStart => exact ⟨0, World.iter_heap w s 0, (Below.refl _ w).alloc (Nat.le_refl _) _, rfl, by omega⟩
 case round =>
  obtain ⟨pos, hit, hbw, hleft, hfu⟩ := hrel
  by_cases hps : pos < s.size
  ·obtain ⟨g, rfl⟩ : ∃ g, gk = g + 1 := ⟨gk - 1, by omega⟩
   have hnx : ∀ ty, (Instr.next (.pointer (some ⟨w.heap.size, 0, none⟩)) true ty).run Tryd.prog wr = _ := fun ty => Lib.run_next_any_at wr w.heap.size s pos ty hit hps
   have hwd := Lib.width_pos s pos
   have hrl := Lib.rune_le s pos
   obtain ⟨R, hR⟩ : ∃ R, (Utf8.decode s pos).1 = R := ⟨_, rfl⟩
   obtain ⟨K, hK⟩ : ∃ K, (Utf8.decode s pos).2 = K := ⟨_, rfl⟩
   simp only [zE, hps, if_true, hR, hK] at hleft
   rw [hR, hK] at hnx
   rw [hK] at hwd
   rw [hR] at hrl
   have hit2 := Lib.iterAt_heap wr w.heap.size s pos (pos + K) hit
   have hbw2 := Lib.below_iterAt hbw (k := w.heap.size) (Nat.le_refl _) s (pos + K)
   obtain ⟨W, hWd⟩ : ∃ W, wr.iterAt w.heap.size s (pos + K) = W := ⟨_, rfl⟩
   rw [hWd] at hnx hit2 hbw2
   have hWs : w.heap.size < W.heap.size := (Array.getElem?_eq_some_iff.1 hit2).1
   have cP := HP.out W R hrl
   have HI := qb.mk hit2
   have HB := qb.mk hbw2
   clear hit hit2 hbw hbw2 hWd hR hK
   cases hpr : p R with
   | true =>
    rw [hpr] at cP
    simp only [hpr, if_true] at hleft
    have HL := qb.mk hleft
    clear hleft hpr
    go_wp2_with (go_at_fn gf; refine cP.mono ?_; rintro e W' ⟨rfl, hb⟩)
    go_roundg g
    case measure => omega
    case rel => exact ⟨pos + K, (hb.block w.heap.size hWs).trans HI.out, HB.out.trans (hb.mono (by omega)), HL.out, by omega⟩
   | false =>
    rw [hpr] at cP
    simp only [hpr, Bool.false_eq_true, if_false] at hleft
    have HL := qb.mk hleft
    clear hleft hpr
    go_wp2_with (go_at_fn gf; refine cP.mono ?_; rintro e W' ⟨rfl, hb⟩)
    go_ret
    exact ⟨by rw [← HL.out] <;> rfl, HB.out.trans (hb.mono (by omega))⟩
  ·have hnx : ∀ ty, (Instr.next (.pointer (some ⟨w.heap.size, 0, none⟩)) true ty).run Tryd.prog wr = _ := fun ty => Lib.run_next_end_at wr w.heap.size s pos ty hit hps
   rw [Qo s p gk pos hps] at hleft
   have HL := qb.mk hleft
   clear hleft
   go_wp2
   go_ret
   exact ⟨by rw [← HL.out] <;> rfl, hbw⟩
def QW (s : ByteArray) : Bool := decide (zw s s.size 0 < 0)
theorem VU (s : ByteArray) (hs : s.size ≤ 1073741824) (w : World) (hT : Lib.Utf8Tabs 0 1 w) :
 Calls Tryd.prog 20 #[.string s] w fun e w' => e = .returned (.bool (QW s)) ∧ Below w.heap.size w w' := by
 have cB := bad_walk s hs w hT
 clear hT
 go_enter Tryd.func20, Tryd.ntmps20
 go_wp2_with (go_at_call 18; refine cB.mono ?_; rintro e W' ⟨rfl, hb⟩)
 go_ret
 exact ⟨rfl, hb⟩
def QF (x : Int) : Bool := decide ((97 ≤ x ∧ x ≤ 122) ∨ (65 ≤ x ∧ x ≤ 90) ∨ (48 ≤ x ∧ x ≤ 57) ∨ x = 45 ∨ x = 95 ∨ x = 46 ∨ x = 58 ∨ (161 ≤ x ∧ x ≠ 65533))
theorem plain_is (x : Int) : Ev (fun k => vp.f k x) (QF x) := by
 have j1 : ∀ b, Ev (fun k => vp.j1 k x b) (b || decide (x = 45 ∨ x = 95 ∨ x = 46 ∨ x = 58 ∨ (161 ≤ x ∧ x ≠ 65533))) := fun b => by
  refine Ev.step (f := fun _ => some (b || decide (x = 45 ∨ x = 95 ∨ x = 46 ∨ x = 58 ∨ (161 ≤ x ∧ x ≠ 65533)))) (fun k => ?_) (Ev.now _)
  cases b
  ·simp only [vp.j1]
   rw [if_neg (by simp)]
   by_cases h1 : x = 45
   ·simp [h1]
   ·by_cases h2 : x = 95
    ·simp [h2]
    ·by_cases h3 : x = 46
     ·simp [h3]
     ·by_cases h4 : x = 58
      ·simp [h4]
      ·by_cases h5 : 161 ≤ x
       ·simp [h1, h2, h3, h4, h5]
        by_cases h6 : x = 65533 <;> simp [h6]
       ·simp [h1, h2, h3, h4, h5]
  ·simp [vp.j1]
 have j0 : ∀ b, Ev (fun k => vp.j0 k x b) (b || decide ((65 ≤ x ∧ x ≤ 90) ∨ (48 ≤ x ∧ x ≤ 57)) || decide (x = 45 ∨ x = 95 ∨ x = 46 ∨ x = 58 ∨ (161 ≤ x ∧ x ≠ 65533))) := fun b => by
  cases b
  ·by_cases h1 : x ≥ 65
   ·by_cases h2 : x ≤ 90
    ·refine jo (Ev.step (fun k => ?_) (j1 (decide (x ≤ 90)))) ?_
     ·simp only [vp.j0]; rw [if_neg (by simp), if_pos h1, if_pos h2]
     ·simp [h1, h2]
    ·refine jo (Ev.step (fun k => ?_) (j1 (decide (x ≤ 57)))) ?_
     ·simp only [vp.j0]; rw [if_neg (by simp), if_pos h1, if_neg h2, if_pos (by omega)]
     ·have h3 : ¬ x ≤ 57 := by omega
      simp [h2, h3]
   ·by_cases h3 : x ≥ 48
    ·refine jo (Ev.step (fun k => ?_) (j1 (decide (x ≤ 57)))) ?_
     ·simp only [vp.j0]; rw [if_neg (by simp), if_neg h1, if_pos h3]
     ·have h4 : ¬ 65 ≤ x := h1
      have h5 : 48 ≤ x := h3
      simp [h4, h5]
    ·refine jo (Ev.step (fun k => ?_) (j1 false)) ?_
     ·simp only [vp.j0]; rw [if_neg (by simp), if_neg h1, if_neg h3]
     ·have h4 : ¬ 65 ≤ x := h1
      have h5 : ¬ 48 ≤ x := h3
      simp [h4, h5]
  ·refine jo (Ev.step (fun k => ?_) (j1 true)) (by simp)
   simp only [vp.j0]; rw [if_pos trivial]
 unfold vp.f
 by_cases h : x ≥ 97
 ·refine vm h (jo (j0 _) ?_)
  have h' : 97 ≤ x := h
  unfold QF
  by_cases h2 : x ≤ 122
  ·simp [h', h2]
  ·have h3 : ¬ x ≤ 90 := by omega
   have h4 : ¬ x ≤ 57 := by omega
   simp [h2, h3, h4]
 ·refine qW h (jo (j0 _) ?_)
  have h' : ¬ 97 ≤ x := h
  unfold QF
  rw [Bool.eq_iff_iff]
  simp [h']
  omega
def jv (x : Nat) : Bool := QF (x : Int)
theorem pred_plain : PredP 25 jv := fun W x hx => by
 obtain ⟨k, hk⟩ := (plain_is (x : Int)).rounds
 exact (vp.calls k _ _ W hk).mono fun e w' ⟨he, hd⟩ => ⟨he, hd.below⟩
def Qh (x : Nat) : Bool := decide (32 ≤ x) && decide (x ≠ 127)
theorem pred_val : PredP 70 Qh := fun W x hx => by
 have HB := Below.refl W.heap.size W
 by_cases h1 : 32 ≤ x
 ·have c1 : decide ((32 : Int) ≤ (x : Int)) = true := decide_eq_true (by omega)
  by_cases h2 : x = 127
  ·subst h2
   go_enter Tryd.func70, Tryd.ntmps70
   go_wp2
   go_ret
   exact ⟨rfl, HB⟩
  ·have c2 : ((x : Int) != 127) = true := by simp; omega
   have c3 : ((x : Int) == 127) = false := by simp; omega
   go_enter Tryd.func70, Tryd.ntmps70
   go_wp2
   go_ret
   exact ⟨by simp [Qh, h1, h2], HB⟩
 ·have c1 : decide ((32 : Int) ≤ (x : Int)) = false := decide_eq_false (by omega)
  go_enter Tryd.func70, Tryd.ntmps70
  go_wp2
  go_ret
  exact ⟨by simp [Qh, h1], HB⟩
def QH (s : ByteArray) : Bool := decide (1 ≤ s.size) && decide (s.size ≤ 24) && QW s && zE s jv s.size 0
theorem isEmpty_of (s : ByteArray) (h : s.size = 0) : s.toList.isEmpty = true := by
 rw [Lib.toList_data]
 have : s.data.toList = [] := List.eq_nil_of_length_eq_zero (by rw [← Lib.size_eq]; exact h)
 rw [this]; rfl
theorem nonEmpty_of (s : ByteArray) (h : 1 ≤ s.size) : s.toList.isEmpty = false := by
 rw [Lib.toList_data]
 cases e : s.data.toList with
 | nil => have : s.size = 0 := by rw [Lib.size_eq, e]; rfl
          omega
 | cons _ _ => rfl
set_option maxHeartbeats 2000000 in
theorem key_walk (s : ByteArray) (hs : s.size ≤ 1073741824) (w : World) (hT : Lib.Utf8Tabs 0 1 w) :
 Calls Tryd.prog 21 #[.string s] w fun e w' => e = .returned (.bool (QH s)) ∧ Below w.heap.size w w' := by
 have HB := Below.refl w.heap.size w
 by_cases h0 : s.size = 0
 ·have c0 := isEmpty_of s h0
  have hr : QH s = false := by unfold QH; rw [decide_eq_false (by omega)]; rfl
  rw [hr]
  clear hT hr
  go_enter Tryd.func21, Tryd.ntmps21
  go_wp2
  go_ret
  exact ⟨rfl, HB⟩
 ·have c0 := nonEmpty_of s (by omega)
  by_cases h1 : s.size ≤ 24
  ·have c1 : decide ((s.size : Int) ≤ 24) = true := decide_eq_true (by omega)
   have cW := VU s hs w hT
   cases hW : QW s with
   | false =>
    have hr : QH s = false := by unfold QH; rw [hW]; simp
    rw [hr]
    rw [hW] at cW
    clear hT hr hW
    go_enter Tryd.func21, Tryd.ntmps21
    go_wp2_with (go_at_call 20; refine cW.mono ?_; rintro e W' ⟨rfl, hb⟩)
    go_ret
    exact ⟨rfl, hb⟩
   | true =>
    have hr : QH s = zE s jv s.size 0 := by unfold QH; rw [hW, decide_eq_true (show 1 ≤ s.size by omega), decide_eq_true h1]; rfl
    rw [hr]
    rw [hW] at cW
    obtain ⟨q, hq⟩ : ∃ q, zE s jv s.size 0 = q := ⟨_, rfl⟩
    have cA : ∀ W, Calls Tryd.prog 69 #[.string s, .func (.func 25) #[] #[]] W fun e w' => e = .returned (.bool q) ∧ Below W.heap.size W w' := fun W => by
     rw [← hq]; exact all_walk s 25 jv (enters_of Tryd.func25 (by kernel_rfl) rfl) pred_plain W
    rw [hq]
    clear hT hr hW hq
    go_enter Tryd.func21, Tryd.ntmps21
    go_wp2_with (first | (go_at_call 20; refine cW.mono ?_; rintro e W' ⟨rfl, hb⟩) | (go_at_call 69; refine (cA _).mono ?_; rintro e W2 ⟨rfl, hb2⟩))
    go_ret
    exact ⟨rfl, hb.trans (hb2.mono hb.size)⟩
  ·have c1 : decide ((s.size : Int) ≤ 24) = false := decide_eq_false (by omega)
   have hr : QH s = false := by unfold QH; rw [decide_eq_false h1]; simp
   rw [hr]
   clear hT hr
   go_enter Tryd.func21, Tryd.ntmps21
   go_wp2
   go_ret
   exact ⟨rfl, HB⟩
def jK (s : ByteArray) : Bool := decide (s.size ≤ 48) && QW s && zE s Qh s.size 0
set_option maxHeartbeats 2000000 in
theorem VT (s : ByteArray) (hs : s.size ≤ 1073741824) (w : World) (hT : Lib.Utf8Tabs 0 1 w) :
 Calls Tryd.prog 23 #[.string s] w fun e w' => e = .returned (.bool (jK s)) ∧ Below w.heap.size w w' := by
 have HB := Below.refl w.heap.size w
 by_cases h1 : s.size ≤ 48
 ·have c1 : decide ((s.size : Int) ≤ 48) = true := decide_eq_true (by omega)
  have cW := VU s hs w hT
  cases hW : QW s with
  | false =>
   have hr : jK s = false := by unfold jK; rw [hW]; simp
   rw [hr]
   rw [hW] at cW
   clear hT hr hW
   go_enter Tryd.func23, Tryd.ntmps23
   go_wp2_with (go_at_call 20; refine cW.mono ?_; rintro e W' ⟨rfl, hb⟩)
   go_ret
   exact ⟨rfl, hb⟩
  | true =>
   have hr : jK s = zE s Qh s.size 0 := by unfold jK; rw [hW, decide_eq_true h1]; rfl
   rw [hr]
   rw [hW] at cW
   obtain ⟨q, hq⟩ : ∃ q, zE s Qh s.size 0 = q := ⟨_, rfl⟩
   have cA : ∀ W, Calls Tryd.prog 69 #[.string s, .func (.func 70) #[] #[]] W fun e w' => e = .returned (.bool q) ∧ Below W.heap.size W w' := fun W => by
    rw [← hq]; exact all_walk s 70 Qh (enters_of Tryd.func70 (by kernel_rfl) rfl) pred_val W
   rw [hq]
   clear hT hr hW hq
   go_enter Tryd.func23, Tryd.ntmps23
   go_wp2_with (first | (go_at_call 20; refine cW.mono ?_; rintro e W' ⟨rfl, hb⟩) | (go_at_call 69; refine (cA _).mono ?_; rintro e W2 ⟨rfl, hb2⟩))
   go_ret
   exact ⟨rfl, hb.trans (hb2.mono hb.size)⟩
 ·have c1 : decide ((s.size : Int) ≤ 48) = false := decide_eq_false (by omega)
  have hr : jK s = false := by unfold jK; rw [decide_eq_false h1]; simp
  rw [hr]
  clear hT hr
  go_enter Tryd.func23, Tryd.ntmps23
  go_wp2
  go_ret
  exact ⟨rfl, HB⟩
end Go.Proofs.YtalpmbeddldfoaaDoor.PA
