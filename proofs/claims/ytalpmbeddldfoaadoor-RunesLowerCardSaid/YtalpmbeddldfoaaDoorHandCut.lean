/- runes.Count and Cut walked. -/
import Derived.Test.YtalpmbeddldfoaaDoorHandBad
import Derived.Test.YtalpmbeddldfoaaDoorFChangeoverref05Cut
import Derived.Lib.RuneCount
set_option linter.unusedVariables false
namespace Go.Proofs.YtalpmbeddldfoaaDoor.PA
open Go.RowKit Go.IntWalk Go.Proofs.YtalpmbeddldfoaaDoorW.PrintWords Go.Proofs.YtalpmbeddldfoaaDoor.Hand
set_option maxHeartbeats 2000000 in
set_option maxRecDepth 100000 in
theorem count_walk (s : ByteArray) (hs : s.size ≤ 1073741824) (w : World) :
    Calls Tryd.prog 29 #[.string s] w fun e w' => e = .returned (.int .i64 (Lib.runeCount s)) ∧ Below w.heap.size w w' := by
  go_enter Tryd.func29, Tryd.ntmps29
  go_wp2
  go_loopw [3] (fun n w' => ∃ (pos b acc : Nat), w' = w.iter s pos ∧ n = .int .i64 acc ∧ acc + Lib.runeCountFrom s b pos = Lib.runeCount s ∧ s.size ≤ pos + b ∧ acc ≤ pos) (fun _ w' => s.size - w'.iterPos w.heap.size)
  case atStart => exact ⟨0, s.size, 0, rfl, rfl, by simp [Lib.runeCount], by omega, Nat.le_refl _⟩
  case round =>
    obtain ⟨pos, b, acc, rfl, rfl, hc, hb, ha⟩ := hrel
    have HC := Aside0.mk hc
    clear hc
    by_cases hp : pos < s.size
    · have hnx : ∀ ty, (Instr.next (.pointer (some ⟨w.heap.size, 0, none⟩)) true ty).run Tryd.prog (w.iter s pos) = _ := fun ty => run_next_any w s pos ty hp
      have hwd := Lib.decode_width_pos s pos hp
      go_wp2
      go_roundw
      case rel =>
        have hc := HC.out
        cases b with
        | zero => omega
        | succ b =>
          refine ⟨pos + (Utf8.decode s pos).2, b, acc + 1, rfl, by go_num, ?_, by omega, by omega⟩
          rw [← hc]
          simp [Lib.runeCountFrom, hp]
          omega
      case measure =>
        simp
        omega
    · have hnx : ∀ ty, (Instr.next (.pointer (some ⟨w.heap.size, 0, none⟩)) true ty).run Tryd.prog (w.iter s pos) = _ := fun ty => run_next_end w s pos ty hp
      have hc : acc = Lib.runeCount s := by have := HC.out; rw [Lib.runeCountFrom_end s b pos hp, Nat.add_zero] at this; exact this
      have HD := Aside0.mk hc
      clear hc HC
      go_wp2
      go_ret
      exact ⟨by rw [HD.out] <;> rfl, (Below.refl _ w).alloc (Nat.le_refl _) _⟩
/-- Where the m-th rune from pos on begins, or the text's end. -/
def cutD (s : ByteArray) : Nat → Nat → Int → Nat
  | 0, pos, _ => pos
  | g + 1, pos, m => if pos < s.size ∧ 0 < m then cutD s g (pos + (Utf8.decode s pos).2) (m - 1) else pos
theorem cutD_stop (s : ByteArray) (g pos : Nat) (m : Int) (h : ¬ 0 < m) : cutD s g pos m = pos := by
  cases g with
  | zero => rfl
  | succ g => simp only [cutD]; rw [if_neg (fun hh => h hh.2)]
theorem cutD_end (s : ByteArray) (g pos : Nat) (m : Int) (h : ¬ pos < s.size) : cutD s g pos m = pos := by
  cases g with
  | zero => rfl
  | succ g => simp only [cutD]; rw [if_neg (fun hh => h hh.1)]
theorem extract_all (s : ByteArray) : s.extract 0 s.size = s := ByteArray.extract_zero_size
set_option maxHeartbeats 2000000 in
set_option maxRecDepth 100000 in
theorem cut_walk (s : ByteArray) (n : Int) (hs : s.size ≤ 1073741824) (hn : n ≤ 9223372036854775807) (w : World) :
    Calls Tryd.prog 28 #[.string s, .int .i64 n] w fun e w' => e = .returned (.string (s.extract 0 (cutD s s.size 0 n))) ∧ Below w.heap.size w w' := by
  go_enter Tryd.func28, Tryd.ntmps28
  go_wp2
  go_loopg [1] s.size (fun g s1 wx => ∃ (pos : Nat) (m : Int), s1 = .int .i64 m ∧ m ≤ 9223372036854775807 ∧ pos ≤ s.size ∧ wx.heap[w.heap.size]? = some (.stringIter s pos) ∧ Below w.heap.size w wx ∧ cutD s g pos m = cutD s s.size 0 n ∧ s.size ≤ pos + g)
  case atStart => exact ⟨0, n, rfl, hn, Nat.zero_le _, World.iter_heap w s 0, (Below.refl _ w).alloc (Nat.le_refl _) _, rfl, by omega⟩
  case round =>
    obtain ⟨pos, m, rfl, hm, hle, hit, hbw, hleft, hfu⟩ := hrel
    by_cases hp : pos < s.size
    · obtain ⟨g, rfl⟩ : ∃ g, gk = g + 1 := ⟨gk - 1, by omega⟩
      have hnx : ∀ ty, (Instr.next (.pointer (some ⟨w.heap.size, 0, none⟩)) true ty).run Tryd.prog wr = _ := fun ty => Lib.run_next_any_at wr w.heap.size s pos ty hit hp
      have hwd := Lib.width_pos s pos
      have hwl := width_le s pos hp
      obtain ⟨R, hR⟩ : ∃ R, (Utf8.decode s pos).1 = R := ⟨_, rfl⟩
      obtain ⟨K, hK⟩ : ∃ K, (Utf8.decode s pos).2 = K := ⟨_, rfl⟩
      rw [hR, hK] at hnx
      rw [hK] at hwd hwl
      have hit2 := Lib.iterAt_heap wr w.heap.size s pos (pos + K) hit
      have hbw2 := Lib.below_iterAt hbw (k := w.heap.size) (Nat.le_refl _) s (pos + K)
      obtain ⟨W, hWd⟩ : ∃ W, wr.iterAt w.heap.size s (pos + K) = W := ⟨_, rfl⟩
      rw [hWd] at hnx hit2 hbw2
      have HI := Aside0.mk hit2
      have HB := Aside0.mk hbw2
      clear hit hit2 hbw hbw2 hWd
      by_cases hm0 : 0 < m
      · have hl2 : cutD s g (pos + K) (m - 1) = cutD s s.size 0 n := by
          rw [← hleft]
          simp only [cutD, hK]
          rw [if_pos ⟨hp, hm0⟩]
        have HL := Aside0.mk hl2
        clear hleft hl2 hR hK
        have c1 : decide (m ≤ 0) = false := decide_eq_false (by omega)
        go_wp2
        go_roundg g
        case measure => omega
        case rel => exact ⟨pos + K, m - 1, by go_num, by omega, hwl, HI.out, HB.out, HL.out, by omega⟩
      · have hl2 : pos = cutD s s.size 0 n := by rw [← hleft, cutD_stop s _ pos m hm0]
        have HL := Aside0.mk hl2
        clear hleft hl2 hR hK
        have c1 : decide (m ≤ 0) = true := decide_eq_true (by omega)
        have hp1 : (pos : Int) ≤ (s.size : Int) := by omega
        go_wp2
        go_ret
        exact ⟨by rw [← HL.out] <;> rfl, HB.out⟩
    · have hnx : ∀ ty, (Instr.next (.pointer (some ⟨w.heap.size, 0, none⟩)) true ty).run Tryd.prog wr = _ := fun ty => Lib.run_next_end_at wr w.heap.size s pos ty hit hp
      have hl2 : s.extract 0 (cutD s s.size 0 n) = s := by
        rw [← hleft, cutD_end s _ pos m hp, show pos = s.size by omega, extract_all]
      have HL := Aside0.mk hl2
      have HB := Aside0.mk hbw
      clear hleft hl2 hbw
      go_wp2
      go_ret
      exact ⟨by rw [HL.out] <;> rfl, HB.out⟩
/-- The reference's cut: where, and how many runes. -/
theorem refCut_ev (s : ByteArray) (hb : s.size ≤ 1073741824) (n : Int) : ∀ (g i k : Nat), s.size ≤ i + g → i ≤ s.size → k ≤ i →
    ∃ q : Nat, Ev (fun j => changeoverref05_Cut.l0 j s n (i : Int) (k : Int)) (s.extract 0 (cutD s g i (n - k)), (q : Int)) ∧ (s.size ≤ n → q = k + Lib.runeCountFrom s g i)
  | g, i, k, hm, hle, hk => by
    have e0 : ∀ b, b = false → Ev (fun j => changeoverref05_Cut.j1 j s n (i : Int) (k : Int) b) (s.extract 0 i, (k : Int)) := fun b hb => by
      subst hb
      exact Ev.step (f := fun _ => some (s.extract 0 i, (k : Int))) (fun j => by simp only [changeoverref05_Cut.j1, Int.toNat_natCast]; ((repeat (first | refine Eq.trans (if_pos (by first | assumption | omega | trivial | exact decide_eq_true (by first | assumption | omega) | (simp only [decide_eq_true_eq]; first | assumption | omega) | (simp; done) | (simp; omega))) ?_ | refine Eq.trans (if_neg (by first | assumption | omega | (intro hh; have := of_decide_eq_true hh; first | contradiction | omega) | (simp only [decide_eq_true_eq]; first | assumption | omega) | (simp; done) | (simp; omega))) ?_)); try rfl)) (Ev.now _)
    by_cases h : i < s.size
    · obtain ⟨g, rfl⟩ : ∃ m', g = m' + 1 := ⟨g - 1, by omega⟩
      by_cases hkn : (k : Int) < n
      · have he := size_is s i h hb
        have hf := szp_fst s i
        have hw := width_le s i h
        have hp := Lib.width_pos s i
        have e1 := wrap_up i (by omega)
        have e2 := wrap_up k (by omega)
        obtain ⟨q, ih, hq⟩ := refCut_ev s hb n g (i + (Utf8.decode s i).2) (k + 1) (by omega) hw (by omega)
        have hc : cutD s (g + 1) i (n - k) = cutD s g (i + (Utf8.decode s i).2) (n - (k + 1 : Nat)) := by
          simp only [cutD]
          rw [if_pos ⟨h, by omega⟩]
          congr 1
          omega
        refine ⟨q, ?_, fun hn => ?_⟩
        · rw [hc]
          refine Ev.step (fun j => by simp only [changeoverref05_Cut.l0]; ((repeat (first | refine Eq.trans (if_pos (by first | assumption | omega | trivial | exact decide_eq_true (by first | assumption | omega) | (simp only [decide_eq_true_eq]; first | assumption | omega) | (simp; done) | (simp; omega))) ?_ | refine Eq.trans (if_neg (by first | assumption | omega | (intro hh; have := of_decide_eq_true hh; first | contradiction | omega) | (simp only [decide_eq_true_eq]; first | assumption | omega) | (simp; done) | (simp; omega))) ?_)); try rfl)) ?_
          rw [decide_eq_true hkn]
          refine Ev.step (fun j => by simp only [changeoverref05_Cut.j1]; ((repeat (first | refine Eq.trans (if_pos (by first | assumption | omega | trivial | exact decide_eq_true (by first | assumption | omega) | (simp only [decide_eq_true_eq]; first | assumption | omega) | (simp; done) | (simp; omega))) ?_ | refine Eq.trans (if_neg (by first | assumption | omega | (intro hh; have := of_decide_eq_true hh; first | contradiction | omega) | (simp only [decide_eq_true_eq]; first | assumption | omega) | (simp; done) | (simp; omega))) ?_)); try rfl)) (he.bind ?_)
          dsimp only
          by_cases c1 : (Utf8.decode s i).2 = 1 ∧ (Utf8.decode s i).1 = 65533
          · have c2 : ((szp s i).1 : Int) = 0 := by have := hf.1.mpr c1; omega
            refine Ev_if_pos c2 ?_
            rw [e1, e2, c1.1]
            rw [c1.1] at ih
            exact ih
          · have c2 : ¬ (szp s i).1 = 0 := fun e => c1 (hf.1.mp e)
            have c3 := (hf.2 c2).1
            have c4 : ¬ ((szp s i).1 : Int) = 0 := by omega
            have e3 : wrap64 ((i : Int) + ((szp s i).1 : Int)) = ((i + (Utf8.decode s i).2 : Nat) : Int) := by rw [c3, wrap64_in _ (by omega)]; omega
            refine Ev_if_neg c4 ?_
            rw [e3, e2]
            exact ih
        · have := hq hn
          simp only [Lib.runeCountFrom, h, if_true]
          omega
      · refine ⟨k, ?_, fun hn => by omega⟩
        rw [cutD_stop s _ i _ (by omega)]
        exact Ev.step (fun j => by simp only [changeoverref05_Cut.l0]; ((repeat (first | refine Eq.trans (if_pos (by first | assumption | omega | trivial | exact decide_eq_true (by first | assumption | omega) | (simp only [decide_eq_true_eq]; first | assumption | omega) | (simp; done) | (simp; omega))) ?_ | refine Eq.trans (if_neg (by first | assumption | omega | (intro hh; have := of_decide_eq_true hh; first | contradiction | omega) | (simp only [decide_eq_true_eq]; first | assumption | omega) | (simp; done) | (simp; omega))) ?_)); try rfl)) (e0 _ (decide_eq_false hkn))
    · refine ⟨k, ?_, fun _ => by rw [Lib.runeCountFrom_end s g i h]; rfl⟩
      rw [cutD_end s _ i _ h]
      exact Ev.step (fun j => by simp only [changeoverref05_Cut.l0]; ((repeat (first | refine Eq.trans (if_pos (by first | assumption | omega | trivial | exact decide_eq_true (by first | assumption | omega) | (simp only [decide_eq_true_eq]; first | assumption | omega) | (simp; done) | (simp; omega))) ?_ | refine Eq.trans (if_neg (by first | assumption | omega | (intro hh; have := of_decide_eq_true hh; first | contradiction | omega) | (simp only [decide_eq_true_eq]; first | assumption | omega) | (simp; done) | (simp; omega))) ?_)); try rfl)) (e0 _ rfl)
end Go.Proofs.YtalpmbeddldfoaaDoor.PA
