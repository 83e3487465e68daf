/- RunesLower's pure statement: small letters, twice is once, and as whole as it was. -/
import Derived.Test.YtalpmbeddldfoaaDoorPAwake5
import Derived.Test.YtalpmbeddldfoaaDoorHandLower
import Derived.Test.YtalpmbeddldfoaaDoorFRunesLower
import Derived.Test.YtalpmbeddldfoaaDoorStRunesLower
set_option linter.unusedVariables false
set_option linter.unusedSimpArgs false
namespace Go.Proofs.YtalpmbeddldfoaaDoor.PA
open Go.RowKit Go.IntWalk Go.Proofs.YtalpmbeddldfoaaDoorW.PrintWords Go.Proofs.YtalpmbeddldfoaaDoor.Hand
theorem runesLower_ev (s : ByteArray) (hb : s.size ≤ 1073741824) : Ev (fun k => runes_Lower.f k s) (strOfNums (lowL s)) := by
  unfold runes_Lower.f
  exact Ev_if_neg (by omega) ((refLower_ev s hb).bind (Ev.now _))
theorem bytesOf_str (l : List Int) (h : ∀ x ∈ l, 0 ≤ x ∧ x ≤ 255) : bytesOf (strOfNums l) = l := by
  unfold bytesOf
  rw [strOfNums_data, List.map_map]
  conv => rhs; rw [← List.map_id l]
  apply List.map_congr_left
  intro x hx
  have := h x hx
  simp
  omega
theorem lowL_range (s : ByteArray) : ∀ x ∈ lowL s, 0 ≤ x ∧ x ≤ 255 := by
  intro x hx
  unfold lowL at hx
  obtain ⟨y, hy, rfl⟩ := List.mem_map.1 hx
  apply lowI_range
  unfold bytesOf at hy
  obtain ⟨b, hb, rfl⟩ := List.mem_map.1 hy
  have := b.toNat_lt
  omega
theorem low_twice (s : ByteArray) : lowL (strOfNums (lowL s)) = lowL s := by
  have h : lowL (strOfNums (lowL s)) = (bytesOf (strOfNums (lowL s))).map lowI := rfl
  rw [h, bytesOf_str _ (lowL_range s)]
  unfold lowL
  rw [List.map_map]
  apply List.map_congr_left
  intro x _
  show lowI (lowI x) = lowI x
  unfold lowI
  repeat' split
  all_goals omega
theorem low_size (s : ByteArray) : (strOfNums (lowL s)).size = s.size := by rw [strOfNums_size, lowL_len]
theorem low_bt (s : ByteArray) (i : Nat) (h : i < s.size) : bt (strOfNums (lowL s)) (i : Int) = lowI (bt s (i : Int)) := by
  rw [← rd_bytesOf, bytesOf_str _ (lowL_range s)]
  unfold rd
  rw [Int.toNat_natCast, lowL_at s i h]
def lo (c : Nat) : Nat := if 65 ≤ c ∧ c ≤ 90 then c + 32 else c
theorem decodeN_lo (n a b c d : Nat) (ha : ¬ a < 128) : Lib.decodeN n (lo a) (lo b) (lo c) (lo d) = Lib.decodeN n a b c d := by
  have e : ∀ x, x / 64 = 2 → lo x = x := fun x h => by unfold lo; rw [if_neg (by omega)]
  have f : ∀ x, ¬ x / 64 = 2 → ¬ lo x / 64 = 2 := fun x h => by unfold lo; split <;> omega
  have ea : lo a = a := by unfold lo; rw [if_neg (by omega)]
  rw [ea]
  by_cases hb : b / 64 = 2
  · rw [e b hb]
    by_cases hc : c / 64 = 2
    · rw [e c hc]
      by_cases hd : d / 64 = 2
      · rw [e d hd]
      · have := f d hd
        unfold Lib.decodeN
        simp only [hd, this, and_false, if_false]
    · have := f c hc
      unfold Lib.decodeN
      simp only [hc, this, and_false, false_and, if_false]
  · have := f b hb
    unfold Lib.decodeN
    simp only [hb, this, and_false, false_and, if_false]
theorem get_out (s : ByteArray) (i : Nat) (h : ¬ i < s.size) : s.get! i = 0 := by
  cases s with
  | mk d =>
    show d[i]! = 0
    rw [getElem!_neg d i h]
    rfl
theorem low_get (s : ByteArray) (i : Nat) : ((strOfNums (lowL s)).get! i).toNat = lo (s.get! i).toNat := by
  by_cases h : i < s.size
  · have h1 := low_bt s i h
    rw [bt_get s i h, bt_get _ i (by rw [low_size]; exact h)] at h1
    unfold lowI at h1
    unfold lo
    split at h1
    · rw [if_pos (by omega)]; omega
    · rw [if_neg (by omega)]; omega
  · rw [get_out s i h, get_out _ i (by rw [low_size]; exact h)]
    rfl
theorem decode_low (s : ByteArray) (i : Nat) : (Utf8.decode (strOfNums (lowL s)) i).2 = (Utf8.decode s i).2 ∧ (((Utf8.decode (strOfNums (lowL s)) i).2 = 1 ∧ (Utf8.decode (strOfNums (lowL s)) i).1 = 65533) ↔ ((Utf8.decode s i).2 = 1 ∧ (Utf8.decode s i).1 = 65533)) := by
  rw [Lib.decode_at, Lib.decode_at, low_size, low_get, low_get, low_get, low_get]
  by_cases ha : (s.get! i).toNat < 128
  · have hl : lo (s.get! i).toNat < 128 := by unfold lo; split <;> omega
    unfold Lib.decodeN
    rw [if_pos ha, if_pos hl]
    refine ⟨rfl, ?_⟩
    constructor
    · rintro ⟨_, h⟩; simp only at h; omega
    · rintro ⟨_, h⟩; simp only at h; omega
  · rw [decodeN_lo _ _ _ _ _ ha]
    exact ⟨rfl, Iff.rfl⟩
theorem bad_low (s : ByteArray) : ∀ g i, badFrom (strOfNums (lowL s)) g i = badFrom s g i
  | 0, _ => rfl
  | g + 1, i => by
    obtain ⟨h1, h2⟩ := decode_low s i
    simp only [badFrom, low_size]
    by_cases h : i < s.size
    · rw [if_pos h, if_pos h]
      by_cases c : (Utf8.decode s i).2 = 1 ∧ (Utf8.decode s i).1 = 65533
      · rw [if_pos c, if_pos (h2.mpr c)]
      · rw [if_neg c, if_neg (fun e => c (h2.mp e)), h1]
        exact bad_low s g _
    · rw [if_neg h, if_neg h]
end Go.Proofs.YtalpmbeddldfoaaDoor.PA
namespace Go.Proofs.YtalpmbeddldfoaaDoor.Pure
open Go.RowKit Go.IntWalk Go.Proofs.YtalpmbeddldfoaaDoorW.PrintWords Go.Proofs.YtalpmbeddldfoaaDoor.Hand Go.Proofs.YtalpmbeddldfoaaDoor.PA
theorem RunesLower : PA.RunesLowerPure := by
  intro s _
  refine Ev.rounds (g := fun k => changeoverlaw05_RunesLower.f k s) ?_
  unfold changeoverlaw05_RunesLower.f
  have fin : Ev (fun k => (changeoverlaw05_awake.f k).bind fun t => some t) true := awake5.bind (Ev.now _)
  by_cases h : (s.size : Int) > 500
  · exact Ev_if_pos h fin
  · have hb : s.size ≤ 1073741824 := by omega
    have hb2 : (strOfNums (lowL s)).size ≤ 1073741824 := by rw [low_size]; omega
    refine Ev_if_neg h ((runesLower_ev s hb).bind ((refLower_ev s hb).bind (Ev_if_pos rfl ((runesLower_ev _ hb2).bind (Ev_if_pos ?_ ((runesBad_ev _ hb2).bind ((runesBad_ev s hb).bind (Ev_if_pos ?_ fin))))))))
    · rw [low_twice]
    · rw [low_size]; exact bad_low s _ _
end Go.Proofs.YtalpmbeddldfoaaDoor.Pure
