/- What was put comes back, in plain lists. -/
import Derived.Test.YtalpmbeddldfoaaPRead
set_option linter.unusedVariables false
set_option linter.unusedSimpArgs false
namespace Go.Proofs.Ytalpmbeddldfoaa.PA
open Go.RowKit Go.IntWalk Go.Proofs.YtalpmbeddldfoaaW.PrintWords Go.Proofs.Ytalpmbeddldfoaa.Hand
theorem getS_vb {bs : List Int} {at_ x : Nat} {rest : List Int} (hd : bs.drop at_ = vb x ++ rest) (hx : x ≤ 9223372036854775807) : getS bs at_ = ((x : Int), ((at_ + (vb x).length : Nat) : Int), 0) := by
  unfold getS
  rw [hd, vg_vb 9 x rest 0 0 (by decide) (by omega) (by decide) (by omega)]
  simp [fin]
theorem drop_add {bs : List Int} {at_ : Nat} {a rest : List Int} (hd : bs.drop at_ = a ++ rest) : bs.drop (at_ + a.length) = rest := by
  rw [← List.drop_drop, hd, List.drop_left]
theorem le_of_drop {bs : List Int} {at_ : Nat} {a rest : List Int} (hle : at_ ≤ bs.length) (hd : bs.drop at_ = a ++ rest) : at_ + a.length + rest.length = bs.length := by
  have := congrArg List.length hd
  rw [List.length_drop, List.length_append] at this
  omega
theorem number_back {bs : List Int} {at_ x : Nat} {rest : List Int} (h : Okb bs at_) (hd : bs.drop at_ = vb x ++ rest) (hx : x ≤ 9223372036854775807) (most : Int) (hm : (x : Int) ≤ most) : Ev (fun k => pack_Reader_Number.f k bs (at_ : Int) 0 most) ((x : Int), ((at_ + (vb x).length : Nat) : Int), 0) := by
  refine Ev_eq (number_ev h most) ?_
  have e : (if most < (x : Int) then (2 : Int) else 0) = 0 := if_neg (by omega)
  simp only [val1, limS, getS_vb hd hx, if_true, e]
theorem number_long {bs : List Int} {at_ x : Nat} {rest : List Int} (h : Okb bs at_) (hd : bs.drop at_ = vb x ++ rest) (hx : x ≤ 9223372036854775807) (most : Int) (hm : most < (x : Int)) : Ev (fun k => pack_Reader_Number.f k bs (at_ : Int) 0 most) (0, ((at_ + (vb x).length : Nat) : Int), 2) := by
  refine Ev_eq (number_ev h most) ?_
  have e : (if most < (x : Int) then (2 : Int) else 0) = 2 := if_pos hm
  simp only [val1, limS, getS_vb hd hx, if_true, e]
  rfl
theorem cntS_back {bs : List Int} {at_ x : Nat} {rest : List Int} (h : Okb bs at_) (hd : bs.drop at_ = vb x ++ rest) (hx : x ≤ 9223372036854775807) (most : Int) (hm : (x : Int) ≤ most) (hr : x ≤ rest.length) : cntS bs at_ most = ((x : Int), ((at_ + (vb x).length : Nat) : Int), 0) := by
  have hle := le_of_drop h.le hd
  have hl : limS bs at_ most = ((x : Int), ((at_ + (vb x).length : Nat) : Int), 0) := by
    have e : (if most < (x : Int) then (2 : Int) else 0) = 0 := if_neg (by omega)
    simp only [limS, getS_vb hd hx, if_true, e]
  unfold cntS
  rw [hl, if_neg]
  rintro ⟨_, hh⟩
  simp only at hh
  omega
theorem count_back {bs : List Int} {at_ x : Nat} {rest : List Int} (h : Okb bs at_) (hd : bs.drop at_ = vb x ++ rest) (hx : x ≤ 9223372036854775807) (most : Int) (hm : (x : Int) ≤ most) (hr : x ≤ rest.length) : Ev (fun k => pack_Reader_Count.f k bs (at_ : Int) 0 most) ((x : Int), ((at_ + (vb x).length : Nat) : Int), 0) := by
  refine Ev_eq (count_ev h most) ?_
  rw [cntS_back h hd hx most hm hr]
  rfl
theorem raw_back {bs : List Int} {at_ : Nat} {a rest : List Int} (h : Okb bs at_) (hd : bs.drop at_ = vb a.length ++ (a ++ rest)) (hx : a.length ≤ 9223372036854775807) (most : Int) (hm : (a.length : Int) ≤ most) : rawS bs at_ most = (a, ((at_ + (vb a.length).length + a.length : Nat) : Int), 0) := by
  have hc := cntS_back h hd hx most hm (by rw [List.length_append]; omega)
  unfold rawS
  rw [hc]
  simp only [if_true, Int.toNat_natCast]
  rw [drop_add hd, List.take_left]
  simp
theorem nums_str (s : ByteArray) : strOfNums (bytesOf s) = s := by
  have key : ∀ l : List UInt8, (l.map fun b : UInt8 => (b.toNat : Int)).map (fun n : Int => UInt8.ofNat n.toNat) = l := by
    intro l
    induction l with
    | nil => rfl
    | cons x l ih => simp [ih]
  apply ByteArray.ext
  apply Array.ext'
  rw [strOfNums_data, bytesOf]
  exact key _
theorem text_back {bs : List Int} {at_ : Nat} {s : ByteArray} {rest : List Int} (h : Okb bs at_) (hd : bs.drop at_ = vb s.size ++ (bytesOf s ++ rest)) (hx : s.size ≤ 9223372036854775807) (most : Int) (hm : (s.size : Int) ≤ most) : Ev (fun k => pack_Reader_Text.f k bs (at_ : Int) 0 most) (s, ((at_ + (vb s.size).length + s.size : Nat) : Int), 0) := by
  have hb := bytesOf_length s
  rw [← hb] at hd hx hm
  refine Ev_eq (text2_ev h most) ?_
  rw [raw_back h hd hx most hm, nums_str, hb]
theorem flag_back {bs : List Int} {at_ : Nat} {b : Bool} {rest : List Int} (h : Okb bs at_) (hd : bs.drop at_ = (if b then 1 else 0) :: rest) : pack_Reader_Flag.f bs (at_ : Int) 0 = some (b, ((at_ + 1 : Nat) : Int), 0) := by
  have hle := le_of_drop (a := [if b then 1 else 0]) h.le hd
  simp only [List.length_singleton] at hle
  have hlt : at_ < bs.length := by omega
  have hr : rd bs (at_ : Int) = if b then 1 else 0 := by
    rw [drop_rd at_ hlt] at hd
    exact (List.cons.inj hd).1
  rw [flag2_eq h, if_neg (by omega), hr]
  cases b <;> rfl
end Go.Proofs.Ytalpmbeddldfoaa.PA
