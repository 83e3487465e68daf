/- runes.Bad walked: the first byte that is no rune's. -/
import Derived.Test.YtalpmbeddldfoaaDoorPRunes
import Derived.Test.YtalpmbeddldfoaaDoorHandU8
import Derived.Lib.OthersKept
import Derived.Deep.LoopGhost
set_option linter.unusedVariables false
namespace Go.Proofs.YtalpmbeddldfoaaDoor.PA
open Go.RowKit Go.IntWalk Go.Proofs.YtalpmbeddldfoaaDoorW.PrintWords Go.Proofs.YtalpmbeddldfoaaDoor.Hand
theorem go_at (s : ByteArray) (pos : Nat) (h : pos < s.size) : Lib.decodeGo (s.extract pos s.size) = Utf8.decode s pos := by
  unfold Lib.decodeGo
  rw [if_neg (by rw [Lib.tail_size]; omega), Lib.tail_decode, Nat.add_zero]
set_option maxHeartbeats 2000000 in
set_option maxRecDepth 100000 in
theorem bad_walk (s : ByteArray) (hs : s.size ≤ 1073741824) (w : World) (hT : Lib.Utf8Tabs 0 1 w) :
    Calls Tryd.prog 18 #[.string s] w fun e w' => e = .returned (.int .i64 (badFrom s s.size 0)) ∧ Below w.heap.size w w' := by
  have HT := Aside0.mk hT
  clear hT
  go_enter Tryd.func18, Tryd.ntmps18
  go_wp2
  go_loopg [] s.size (fun g wx => ∃ pos : Nat, wx.heap[w.heap.size]? = some (.stringIter s pos) ∧ Below w.heap.size w wx ∧ badFrom s g pos = badFrom s s.size 0 ∧ s.size ≤ pos + g)
  case atStart => exact ⟨0, World.iter_heap w s 0, (Below.refl _ w).alloc (Nat.le_refl _) _, rfl, by omega⟩
  case round =>
    obtain ⟨pos, hit, hbw, hleft, hfu⟩ := hrel
    by_cases hp : pos < s.size
    · obtain ⟨g, rfl⟩ : ∃ g, gk = g + 1 := ⟨gk - 1, by omega⟩
      have hnx : ∀ ty, (Instr.next (.pointer (some ⟨w.heap.size, 0, none⟩)) true ty).run Tryd.prog wr = _ := fun ty => Lib.run_next_any_at wr w.heap.size s pos ty hit hp
      have hwd := Lib.width_pos s pos
      have hgo := go_at s pos hp
      obtain ⟨R, hR⟩ : ∃ R, (Utf8.decode s pos).1 = R := ⟨_, rfl⟩
      obtain ⟨K, hK⟩ : ∃ K, (Utf8.decode s pos).2 = K := ⟨_, rfl⟩
      simp only [badFrom, hp, if_true, hR, hK] at hleft
      rw [hR, hK] at hnx
      rw [hK] at hwd
      have hit2 := Lib.iterAt_heap wr w.heap.size s pos (pos + K) hit
      have hbw2 := Lib.below_iterAt hbw (k := w.heap.size) (Nat.le_refl _) s (pos + K)
      obtain ⟨W, hWd⟩ : ∃ W, wr.iterAt w.heap.size s (pos + K) = W := ⟨_, rfl⟩
      rw [hWd] at hnx hit2 hbw2
      have hWs : w.heap.size < W.heap.size := (Array.getElem?_eq_some_iff.1 hit2).1
      have cD := Tryd.utf8_DecodeRuneInString (s.extract pos s.size) W (Utf8Tabs_below HT.out hbw2)
      rw [hgo, hR, hK] at cD
      have HI := Aside0.mk hit2
      have HB := Aside0.mk hbw2
      clear hit hit2 hbw hbw2 hWd hgo hR hK
      by_cases h1 : R = 65533
      · subst h1
        have hp1 : (pos : Int) ≤ (s.size : Int) := by omega
        by_cases h2 : K = 1
        · subst h2
          rw [if_pos ⟨rfl, rfl⟩] at hleft
          have HL := Aside0.mk hleft
          clear hleft
          go_wp2_with (go_at_call 67; refine cD.mono ?_; rintro e W' ⟨rfl, hb⟩)
          go_ret
          exact ⟨by rw [← HL.out] <;> rfl, HB.out.trans (hb.mono (by omega))⟩
        · rw [if_neg (fun h => h2 h.1)] at hleft
          have HL := Aside0.mk hleft
          clear hleft
          have h3 : ((K : Int) == 1) = false := by simp; omega
          go_wp2_with (go_at_call 67; refine cD.mono ?_; rintro e W' ⟨rfl, hb⟩)
          go_roundg g
          case measure => omega
          case rel => exact ⟨pos + K, (hb.block w.heap.size hWs).trans HI.out, HB.out.trans (hb.mono (by omega)), HL.out, by omega⟩
      · rw [if_neg (fun h => h1 h.2)] at hleft
        have HL := Aside0.mk hleft
        clear hleft
        have h3 : ((R : Int) != 65533) = true := by simp; omega
        have h4 : ((R : Int) == 65533) = false := by simp; omega
        go_wp2
        go_roundg g
        case measure => omega
        case rel => exact ⟨pos + K, HI.out, HB.out, HL.out, by omega⟩
    · have hnx : ∀ ty, (Instr.next (.pointer (some ⟨w.heap.size, 0, none⟩)) true ty).run Tryd.prog wr = _ := fun ty => Lib.run_next_end_at wr w.heap.size s pos ty hit hp
      rw [badFrom_end s gk pos hp] at hleft
      have HL := Aside0.mk hleft
      clear hleft
      go_wp2
      go_ret
      exact ⟨by rw [← HL.out] <;> rfl, hbw⟩
end Go.Proofs.YtalpmbeddldfoaaDoor.PA
