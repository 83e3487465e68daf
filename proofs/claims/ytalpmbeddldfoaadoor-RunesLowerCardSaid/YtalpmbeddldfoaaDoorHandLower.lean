/- runes.Lower walked: small letters, byte by byte. -/
import Derived.Test.YtalpmbeddldfoaaDoorHandBad
import Derived.Test.YtalpmbeddldfoaaDoorFChangeoverref05Lower
import Derived.Lib.ConvBytes
import Derived.Laws.BytesArg
import Derived.Outline
set_option linter.unusedVariables false
namespace Go.Proofs.YtalpmbeddldfoaaDoor.PA
open Go.RowKit Go.IntWalk Go.Proofs.YtalpmbeddldfoaaDoorW.PrintWords Go.Proofs.YtalpmbeddldfoaaDoor.Hand
/-- A byte with its small letter. -/
def lowI (c : Int) : Int := if 65 ≤ c ∧ c ≤ 90 then c + 32 else c
def lowL (s : ByteArray) : List Int := (bytesOf s).map lowI
theorem lowL_len (s : ByteArray) : (lowL s).length = s.size := by rw [lowL, List.length_map, bytesOf_length]
theorem lowL_at (s : ByteArray) (j : Nat) (h : j < s.size) : (lowL s).getD j 0 = lowI (bt s (j : Int)) := by
  have h1 : j < (bytesOf s).length := by rw [bytesOf_length]; exact h
  rw [lowL, List.getD_eq_getElem?_getD, List.getElem?_map, List.getElem?_eq_getElem h1]
  show lowI ((bytesOf s)[j]) = _
  have := rd_bytesOf s (j : Int)
  rw [← this]
  unfold rd
  rw [Int.toNat_natCast, List.getD_eq_getElem?_getD, List.getElem?_eq_getElem h1]
  rfl
theorem lowI_range (c : Int) (h : 0 ≤ c ∧ c ≤ 255) : 0 ≤ lowI c ∧ lowI c ≤ 255 := by unfold lowI; split <;> omega
/-- What the j-th byte is when all below pos are done. -/
def lowAt (s : ByteArray) (pos j : Nat) : Int := if j < pos then lowI (bt s (j : Int)) else bt s (j : Int)
/-- The bytes of what a decoder passes: itself, if it is one of ASCII; else all are above. -/
theorem step_bytes (s : ByteArray) (i : Nat) (h : i < s.size) :
    ((Utf8.decode s i).2 = 1 ∧ bt s (i : Int) = ((Utf8.decode s i).1 : Int) ∧ (Utf8.decode s i).1 < 128) ∨ (128 ≤ (Utf8.decode s i).1 ∧ ∀ j, j < (Utf8.decode s i).2 → 128 ≤ bt s ((i + j : Nat) : Int)) := by
  have hw := width_le s i h
  have e1 : ∀ j, i + j < s.size → bt s ((i + j : Nat) : Int) = ((s.get! (i + j)).toNat : Int) := fun j h => bt_get s (i + j) h
  have e0 := bt_get s i h
  rw [Lib.decode_at] at hw ⊢
  generalize hN : Lib.decodeN _ _ _ _ _ = d at hw ⊢
  have hbad : ¬ (s.get! i).toNat < 128 → ∀ j, j < 1 → 128 ≤ bt s ((i + j : Nat) : Int) := fun hc j hj => by
    obtain rfl : j = 0 := by omega
    rw [Nat.add_zero, e0]; omega
  unfold Lib.decodeN at hN
  split at hN
  · subst hN
    exact .inl ⟨rfl, e0, by assumption⟩
  · rename_i c0
    split at hN
    · rename_i c1
      split at hN
      · subst hN
        refine .inr ⟨by simpa using by assumption, fun j hj => ?_⟩
        have hj' : j < 2 := hj
        rw [e1 j (by simp at hw; omega)]
        rcases (show j = 0 ∨ j = 1 by omega) with rfl | rfl
        · rw [Nat.add_zero]; omega
        · omega
      · subst hN; exact .inr ⟨by decide, hbad c0⟩
    · split at hN
      · rename_i c1
        split at hN
        · subst hN
          refine .inr ⟨by simp; omega, fun j hj => ?_⟩
          have hj' : j < 3 := hj
          rw [e1 j (by simp at hw; omega)]
          rcases (show j = 0 ∨ j = 1 ∨ j = 2 by omega) with rfl | rfl | rfl
          · rw [Nat.add_zero]; omega
          · omega
          · omega
        · subst hN; exact .inr ⟨by decide, hbad c0⟩
      · split at hN
        · rename_i c1
          split at hN
          · subst hN
            refine .inr ⟨by simp; omega, fun j hj => ?_⟩
            have hj' : j < 4 := hj
            rw [e1 j (by simp at hw; omega)]
            rcases (show j = 0 ∨ j = 1 ∨ j = 2 ∨ j = 3 by omega) with rfl | rfl | rfl | rfl
            · rw [Nat.add_zero]; omega
            · omega
            · omega
            · omega
          · subst hN; exact .inr ⟨by decide, hbad c0⟩
        · subst hN; exact .inr ⟨by decide, hbad c0⟩
theorem low_same (s : ByteArray) (i : Nat) (h : i < s.size) (hn : ¬ (65 ≤ (Utf8.decode s i).1 ∧ (Utf8.decode s i).1 ≤ 90)) (j : Nat) (hj : j < s.size) : lowAt s (i + (Utf8.decode s i).2) j = lowAt s i j := by
  unfold lowAt
  by_cases h1 : j < i
  · rw [if_pos (by omega), if_pos h1]
  · rw [if_neg h1]
    by_cases h2 : j < i + (Utf8.decode s i).2
    · rw [if_pos h2]
      rcases step_bytes s i h with ⟨a, b, c⟩ | ⟨b, c⟩
      · have : j = i := by omega
        subst this
        unfold lowI
        rw [if_neg (by omega)]
      · have := c (j - i) (by omega)
        rw [show i + (j - i) = j by omega] at this
        unfold lowI
        rw [if_neg (by omega)]
    · rw [if_neg h2]
theorem low_letter (s : ByteArray) (i : Nat) (h : i < s.size) (hn : 65 ≤ (Utf8.decode s i).1 ∧ (Utf8.decode s i).1 ≤ 90) : (Utf8.decode s i).2 = 1 ∧ ∀ j, lowAt s (i + 1) j = if j = i then ((Utf8.decode s i).1 : Int) + 32 else lowAt s i j := by
  rcases step_bytes s i h with ⟨a, b, c⟩ | ⟨b, c⟩
  · refine ⟨a, fun j => ?_⟩
    unfold lowAt
    by_cases h1 : j = i
    · subst h1
      rw [if_pos (by omega), if_pos rfl, b]
      unfold lowI
      rw [if_pos (by omega)]
    · rw [if_neg h1]
      by_cases h2 : j < i
      · rw [if_pos (by omega), if_pos h2]
      · rw [if_neg (by omega), if_neg h2]
  · omega
theorem small_walk (R : Nat) (hR : R ≤ 1114111) (W : World) : Calls Tryd.prog 71 #[.int .i32 (R : Int)] W fun e w' => e = .returned (.int .i32 (lowI (R : Int))) ∧ w' = W := by
  by_cases h1 : 65 ≤ R
  · have c1 : decide ((65 : Int) ≤ (R : Int)) = true := decide_eq_true (by omega)
    by_cases h2 : R ≤ 90
    · have c2 : decide ((R : Int) ≤ 90) = true := decide_eq_true (by omega)
      have b1 : (0 : Int) ≤ (R : Int) := by omega
      have b2 : (R : Int) ≤ 90 := by omega
      have hl : lowI (R : Int) = (R : Int) + 97 - 65 := by unfold lowI; rw [if_pos (by omega)]; omega
      rw [hl]
      clear hl
      go_enter Tryd.func71, Tryd.ntmps71
      go_wp2
      go_ret
      exact ⟨rfl, rfl⟩
    · have c2 : decide ((R : Int) ≤ 90) = false := decide_eq_false (by omega)
      have hl : lowI (R : Int) = (R : Int) := by unfold lowI; rw [if_neg (by omega)]
      rw [hl]
      clear hl
      go_enter Tryd.func71, Tryd.ntmps71
      go_wp2
      go_ret
      exact ⟨rfl, rfl⟩
  · have c1 : decide ((65 : Int) ≤ (R : Int)) = false := decide_eq_false (by omega)
    have hl : lowI (R : Int) = (R : Int) := by unfold lowI; rw [if_neg (by omega)]
    rw [hl]
    clear hl
    go_enter Tryd.func71, Tryd.ntmps71
    go_wp2
    go_ret
    exact ⟨rfl, rfl⟩
/-- The row of bytes at block b: whatever its mark beyond it. -/
def RowAt (W : World) (b : Nat) (s : ByteArray) (pos : Nat) : Prop :=
  ∃ (cs : Array Value) (N : Nat), W.heap[b]? = some (.cells cs 5 (N, N + 1)) ∧ cs.size = N ∧ s.size ≤ N ∧ ∀ j, j < s.size → cs[j]? = some (.int .u8 (lowAt s pos j))
theorem RowAt.start (w : World) (s : ByteArray) : RowAt (Lib.bytesWorld w 5 s) w.heap.size s 0 := by
  refine ⟨_, _, Lib.bytesWorld_at_new w 5 s, rfl, ?_, fun j hj => ?_⟩
  · simp [Lib.bytesCells]
  · have h := Lib.bytesWorld_cell w 5 s j hj
    simp only [World.cell?, Lib.bytesWorld_at_new] at h
    have h' : (Lib.bytesCells w 5 s)[j]? = _ := h
    rw [h']
    congr 2
    unfold lowAt
    rw [if_neg (by omega)]
    have h1 : j < s.data.toList.length := by rw [data_length]; exact hj
    rw [List.getD_eq_getElem?_getD, List.getElem?_eq_getElem h1]
    unfold bt
    rw [Int.toNat_natCast, dif_pos hj]
    rfl
theorem RowAt.cell {W : World} {b : Nat} {s : ByteArray} {pos : Nat} (h : RowAt W b s pos) (j : Nat) (hj : j < s.size) : W.cell? ⟨b, j, none⟩ = some (.int .u8 (lowAt s pos j)) ∧ W.frozen? ⟨b, j, none⟩ = false := by
  obtain ⟨cs, N, h1, h2, h3, h4⟩ := h
  constructor
  · simp only [World.cell?, h1]
    exact h4 j hj
  · simp only [World.frozen?, h1]
    simp
    omega
theorem RowAt.block {W W' : World} {b : Nat} {s : ByteArray} {pos : Nat} (h : RowAt W b s pos) (e : W'.heap[b]? = W.heap[b]?) : RowAt W' b s pos := by
  obtain ⟨cs, N, h1, h2⟩ := h
  exact ⟨cs, N, e.trans h1, h2⟩
theorem RowAt.same {W : World} {b : Nat} {s : ByteArray} {pos pos' : Nat} (h : RowAt W b s pos) (e : ∀ j, j < s.size → lowAt s pos' j = lowAt s pos j) : RowAt W b s pos' := by
  obtain ⟨cs, N, h1, h2, h3, h4⟩ := h
  exact ⟨cs, N, h1, h2, h3, fun j hj => by rw [e j hj]; exact h4 j hj⟩
theorem RowAt.set {W : World} {b : Nat} {s : ByteArray} {pos : Nat} (h : RowAt W b s pos) (i : Nat) (v : Int) (pos' : Nat) (hi : i < s.size) (e : ∀ j, lowAt s pos' j = if j = i then v else lowAt s pos j) : RowAt (W.setCell ⟨b, i, none⟩ (.int .u8 v)) b s pos' := by
  obtain ⟨cs, N, h1, h2, h3, h4⟩ := h
  refine ⟨cs.setIfInBounds i (.int .u8 v), N, ?_, by simpa using h2, h3, fun j hj => ?_⟩
  · simp [World.setCell, Array.getElem?_modify, h1]
  · rw [e j, Array.getElem?_setIfInBounds]
    by_cases hji : i = j
    · subst hji
      rw [if_pos rfl, if_pos rfl, if_pos (by omega)]
    · rw [if_neg hji, if_neg (Ne.symm hji)]
      exact h4 j hj
set_option maxHeartbeats 2000000 in
set_option maxRecDepth 100000 in
theorem lower_walk (s : ByteArray) (hs : s.size ≤ 1073741824) (w : World) :
    Calls Tryd.prog 30 #[.string s] w fun e w' => e = .returned (.string (strOfNums (lowL s))) ∧ Below w.heap.size w w' := by
  have kb := fun W => print_bytes (P := Tryd.prog) 9 56 5 Tryd.underlying9 Tryd.underlying56 Tryd.underlying5 s W
  have R0 := Aside0.mk (RowAt.start w s)
  have Z0 := Aside0.mk (Lib.bytesWorld_size w 5 s)
  have B0 := Aside0.mk (bytes_below (Below.refl w.heap.size w) (Nat.le_refl _) 5 s)
  obtain ⟨cap, hcap⟩ : ∃ cap, grownCap w s.size 0 5 = cap := ⟨_, rfl⟩
  obtain ⟨W0, hW0⟩ : ∃ W0, Lib.bytesWorld w 5 s = W0 := ⟨_, rfl⟩
  have kb0 := kb w
  rw [hcap, hW0] at kb0
  rw [hW0] at R0 Z0 B0
  clear kb
  go_enter Tryd.func30, Tryd.ntmps30
  go_wp2
  go_loopg [] s.size (fun g wx => ∃ pos : Nat, pos ≤ s.size ∧ wx.heap[W0.heap.size]? = some (.stringIter s pos) ∧ Aside0 (Below w.heap.size w wx) ∧ Aside0 (RowAt wx w.heap.size s pos) ∧ s.size ≤ pos + g)
  case atStart => exact ⟨0, Nat.zero_le _, World.iter_heap W0 s 0, ⟨B0.out.alloc (by rw [Z0.out]; omega) _⟩, ⟨R0.out.block (by
      exact Below.heap_alloc W0 _ w.heap.size (by rw [Z0.out]; omega))⟩, by omega⟩
  case round =>
    obtain ⟨pos, hle, hit, HB, HR, hfu⟩ := hrel
    have hne : W0.heap.size ≠ w.heap.size := by rw [Z0.out]; omega
    have HN := Aside0.mk hne
    by_cases hp : pos < s.size
    · obtain ⟨g, rfl⟩ : ∃ g, gk = g + 1 := ⟨gk - 1, by omega⟩
      have hnx : ∀ ty, (Instr.next (.pointer (some ⟨W0.heap.size, 0, none⟩)) true ty).run Tryd.prog wr = _ := fun ty => Lib.run_next_any_at wr W0.heap.size s pos ty hit hp
      have hwd := Lib.width_pos s pos
      have hwl := width_le s pos hp
      have hrl := Lib.rune_le s pos
      have hsame := Aside0.mk (low_same s pos hp)
      have hlet := Aside0.mk (low_letter s pos hp)
      obtain ⟨R, hR⟩ : ∃ R, (Utf8.decode s pos).1 = R := ⟨_, rfl⟩
      obtain ⟨K, hK⟩ : ∃ K, (Utf8.decode s pos).2 = K := ⟨_, rfl⟩
      rw [hR, hK] at hnx hsame hlet
      rw [hK] at hwd hwl
      rw [hR] at hrl
      have hit2 := Lib.iterAt_heap wr W0.heap.size s pos (pos + K) hit
      have hbw2 := Lib.below_iterAt HB.out (k := W0.heap.size) (by rw [Z0.out]; omega) s (pos + K)
      have hrow2 := HR.out.block (Lib.iterAt_other wr W0.heap.size w.heap.size s (pos + K) (Ne.symm hne))
      obtain ⟨W, hWd⟩ : ∃ W, wr.iterAt W0.heap.size s (pos + K) = W := ⟨_, rfl⟩
      rw [hWd] at hnx hit2 hbw2 hrow2
      have HI := Aside0.mk hit2
      have HB2 := Aside0.mk hbw2
      have HR2 := Aside0.mk hrow2
      have cS := small_walk R hrl W
      clear hit hit2 hbw2 hrow2 hWd hR hK hne HB HR
      by_cases h1 : 65 ≤ R ∧ R ≤ 90
      · have hl := hlet.out h1
        obtain ⟨rfl, hset⟩ := hl
        have HS := Aside0.mk hset
        have hlow : lowI (R : Int) = (R : Int) + 32 := by unfold lowI; rw [if_pos (by omega)]
        rw [hlow] at cS
        have hcf := HR2.out.cell pos hp
        have hc := hcf.1
        have hf := hcf.2
        have b1 : (65 : Int) ≤ (R : Int) := by omega
        have b2 : (R : Int) ≤ 90 := by omega
        have c1 : (((R : Int) + 32) != (R : Int)) = true := by simp; omega
        have c2 : (((R : Int) + 32) == (R : Int)) = false := by simp; omega
        have hps : (pos : Int) < (s.size : Int) := by omega
        clear hlow hset hlet hsame hcf
        go_wp2_with (go_at_call 71; refine cS.mono ?_; rintro e W' ⟨rfl, rfl⟩)
        go_roundg g
        case measure => omega
        case rel => exact ⟨pos + 1, hwl, (Below.heap_setCell _ _ _ _ HN.out).trans HI.out, ⟨HB2.out.setCell (Nat.le_refl _) _⟩, ⟨HR2.out.set pos _ (pos + 1) hp HS.out⟩, by omega⟩
      · have hlow : lowI (R : Int) = (R : Int) := by unfold lowI; rw [if_neg (by omega)]
        rw [hlow] at cS
        have HS := Aside0.mk (hsame.out h1)
        have c1 : ((R : Int) != (R : Int)) = false := by simp
        have c2 : ((R : Int) == (R : Int)) = true := by simp
        clear hlow hlet hsame
        go_wp2_with (go_at_call 71; refine cS.mono ?_; rintro e W' ⟨rfl, rfl⟩)
        go_roundg g
        case measure => omega
        case rel => exact ⟨pos + K, hwl, HI.out, HB2, ⟨HR2.out.same HS.out⟩, by omega⟩
    · have hnx : ∀ ty, (Instr.next (.pointer (some ⟨W0.heap.size, 0, none⟩)) true ty).run Tryd.prog wr = _ := fun ty => Lib.run_next_end_at wr W0.heap.size s pos ty hit hp
      have e : pos = s.size := by omega
      have kc : ∀ dst, Tryd.prog.underlying dst = some .string → (convert 56 dst (.slice (some ⟨w.heap.size, 0, none⟩) s.size cap)).run Tryd.prog wr = .ok (.string (strOfNums (lowL s))) wr :=
        run_convert_bytes_arg wr 56 5 Tryd.underlying56 Tryd.underlying5 w.heap.size 0 s.size cap (lowL s) (lowL_len s) (fun i hi => by
          have := (HR.out.cell i hi).1
          rw [Nat.zero_add, this, lowL_at s i hi]
          congr 2
          unfold lowAt
          rw [if_pos (by omega)])
      have kc9 := kc 9 Tryd.underlying9
      clear kc HR
      go_wp2
      go_ret
      exact ⟨rfl, HB.out⟩
end Go.Proofs.YtalpmbeddldfoaaDoor.PA
