/- Commands of the first version: what both schemas' tables come to. -/
import Derived.Test.YtalpmbeddldfoaaDoorPPut
set_option linter.unusedVariables false
set_option linter.unusedSimpArgs false
namespace Go.Proofs.YtalpmbeddldfoaaDoor.PA
open Go.RowKit Go.IntWalk Go.Proofs.YtalpmbeddldfoaaDoorW.PrintWords Go.Proofs.YtalpmbeddldfoaaDoor.Hand
/-- A pair without its revision. -/
def un (x : S50) : S50 := ⟨x.f0, x.f1, 0⟩
theorem pg_un (l : List S50) (i : Nat) : pg (l.map un) i = un (pg l i) := by
  unfold pg
  rw [List.getD_eq_getElem?_getD, List.getD_eq_getElem?_getD, List.getElem?_map]
  cases l[i]? <;> rfl
theorem kk_un (l : List S50) (i : Nat) : kk (l.map un) i = kk l i := by
  show (pg (l.map un) i).f0.toList = _
  rw [pg_un]
  rfl
theorem UpP.un {l : List S50} (h : UpP l) : UpP (l.map un) := fun j h1 h2 => by
  rw [kk_un, kk_un]
  exact h j h1 (by simpa using h2)
theorem AtP.un {l : List S50} {c : List UInt8} {r : Nat} (h : AtP l c r) : AtP (l.map un) c r :=
  ⟨by rw [List.length_map]; exact h.le, fun j hj => by rw [kk_un]; exact h.lo j hj, fun j hj hk => by rw [kk_un]; exact h.hi j hj (by simpa using hk)⟩
theorem putP_un (l : List S50) (r : Nat) (x : S50) : (putP l r x).map un = putP (l.map un) r (un x) := by
  unfold putP
  rw [kk_un, List.length_map]
  by_cases h : r < l.length ∧ kk l r = x.f0.toList
  · rw [if_pos h]
    refine Eq.trans (by rw [List.map_set]) (if_pos h).symm
  · rw [if_neg h]
    refine Eq.trans ?_ (if_neg h).symm
    simp
theorem findP_at (l : List S50) (c : ByteArray) (hl : l.length ≤ 1000) (hu : UpP l) {r : Nat} (ha : AtP l c.toList r) :
    Ev (fun k => kvone_Find.f k l c) (if r < l.length ∧ kk l r = c.toList then ((pg l r).f0, (pg l r).f1, (pg l r).f2, true) else ((⟨#[]⟩ : ByteArray), (⟨#[]⟩ : ByteArray), 0, false)) := by
  obtain ⟨r', ha', hr⟩ := placeP_ev l c hl hu
  obtain rfl := ha.uniq ha'
  exact findP_ev l c hl hr
theorem kvput_ev (l : List S50) (x : S50) (hl : l.length ≤ 1000) (hu : UpP l) {r : Nat} (ha : AtP l x.f0.toList r) :
    Ev (fun k => kvone_put.f k l x.f0 x.f1 x.f2) (if (r < l.length ∧ kk l r = x.f0.toList) ∨ l.length < 64 then (putP l r x, true) else (l, false)) := by
  obtain ⟨r', ha', hr⟩ := placeP_ev l x.f0 hl hu
  obtain rfl := ha.uniq ha'
  unfold kvone_put.f
  refine hr.bind ?_
  dsimp only
  by_cases h : r < l.length ∧ kk l r = x.f0.toList
  · have := h.1
    rw [decide_eq_true h]
    (repeat (first | refine Ev_if_pos (by first | assumption | omega | rfl | trivial) ?_ | refine Ev_if_neg (by first | assumption | omega | (intro hh; have := of_decide_eq_true hh; first | contradiction | omega) | (simp; done)) ?_))
    refine Ev_eq (Ev.now _) (Eq.trans ?_ (if_pos (Or.inl h)).symm)
    unfold putP
    rw [if_pos h]
    rfl
  · rw [decide_eq_false h]
    refine Ev_if_neg (by simp) ?_
    by_cases h64 : l.length < 64
    · have e64 : (if (r < l.length ∧ kk l r = x.f0.toList) ∨ l.length < 64 then (putP l r x, true) else (l, false)) = (putP l r x, true) := if_pos (Or.inr h64)
      rw [e64]
      refine Ev_if_neg (by omega) ?_
      have hi := insertP l hl r ha.le x
      refine Ev_bindO hi (Ev_eq (Ev.now _) ?_)
      unfold putP
      rw [if_neg h]
    · have e64 : (if (r < l.length ∧ kk l r = x.f0.toList) ∨ l.length < 64 then (putP l r x, true) else (l, false)) = (l, false) := if_neg (by rintro (h' | h') <;> contradiction)
      rw [e64]
      exact Ev_if_pos (by omega) (Ev.now _)
/-- The table without what stands at a place, if it is the key's. -/
def delP (l : List S50) (r : Nat) (c : List UInt8) : List S50 := if r < l.length ∧ kk l r = c then l.take r ++ l.drop (r + 1) else l
theorem delP_un (l : List S50) (r : Nat) (c : List UInt8) : (delP l r c).map un = delP (l.map un) r c := by
  unfold delP
  rw [kk_un, List.length_map]
  by_cases h : r < l.length ∧ kk l r = c
  · rw [if_pos h, if_pos h]; simp
  · rw [if_neg h, if_neg h]
theorem delP_len (l : List S50) (r : Nat) (c : List UInt8) : (delP l r c).length ≤ l.length := by
  unfold delP
  split
  · simp; omega
  · omega
theorem kvdel_ev (l : List S50) (c : ByteArray) (hl : l.length ≤ 1000) (hu : UpP l) {r : Nat} (ha : AtP l c.toList r) :
    Ev (fun k => kvone_del.f k l c) (delP l r c.toList) := by
  obtain ⟨r', ha', hr⟩ := placeP_ev l c hl hu
  obtain rfl := ha.uniq ha'
  unfold kvone_del.f
  refine hr.bind ?_
  dsimp only
  by_cases h : r < l.length ∧ kk l r = c.toList
  · have := h.1
    rw [decide_eq_true h]
    refine Ev_if_pos rfl ?_
    have e2 := wrap_up r (by omega)
    have hd : api_Pair_144.f l (r : Int) (wrap64 ((r : Int) + 1)) = some (l.take r ++ l.drop (r + 1)) := by
      rw [e2]
      simp only [api_Pair_144.f, Option.bind_some, Int.toNat_natCast]
      rw [if_pos (by omega), if_pos (by omega), if_pos (by omega), if_pos (by omega), if_pos (by simp; omega), if_pos (by omega), if_pos (by simp; omega)]
      simp
    refine Ev_bindO hd (Ev_eq (Ev.now _) ?_)
    unfold delP
    rw [if_pos h]
  · rw [decide_eq_false h]
    refine Ev_if_neg (by simp) (Ev_eq (Ev.now _) ?_)
    unfold delP
    rw [if_neg h]
/-- What the older schema's table answers: by where the key stands. -/
def oldDo (l : List S50) (r : Nat) (a b c : Int) (d e : ByteArray) : (List S50) × Int × Int × Int × Bool × ByteArray × Int :=
  if a = 2 then (if (r < l.length ∧ kk l r = d.toList) ∨ l.length < 64 then (putP l r ⟨d, e, 0⟩, b, c, 0, decide (r < l.length ∧ kk l r = d.toList), (if r < l.length ∧ kk l r = d.toList then (pg l r).f1 else ⟨#[]⟩), 0) else (l, b, c, 11, false, ⟨#[]⟩, 0))
  else if a = 3 then (l, b, c, 0, decide (r < l.length ∧ kk l r = d.toList), (if r < l.length ∧ kk l r = d.toList then (pg l r).f1 else ⟨#[]⟩), 0)
  else if a = 4 then (delP l r d.toList, b, c, 0, decide (r < l.length ∧ kk l r = d.toList), (if r < l.length ∧ kk l r = d.toList then (pg l r).f1 else ⟨#[]⟩), 0)
  else (l, b, c, 8, false, ⟨#[]⟩, 0)
theorem oldDo_ev (l : List S50) (hl : l.length ≤ 1000) (hu : UpP l) (a b c : Int) (d e f : ByteArray) (g : Int) {r : Nat} (ha : AtP l d.toList r) :
    Ev (fun k => kvone_Do.f k l a b c d e f g) (oldDo l r a b c d e) := by
  have hf := findP_at l d hl hu ha
  have hp := kvput_ev l ⟨d, e, 0⟩ hl hu (r := r) ha
  have hd := kvdel_ev l d hl hu ha
  have hc := cloneP l hl
  unfold kvone_Do.f oldDo
  refine Ev_bindO hc (hf.bind ?_)
  by_cases h2 : a = 2
  · rw [if_pos h2]
    refine Ev_if_pos h2 (hp.bind ?_)
    by_cases hq : (r < l.length ∧ kk l r = d.toList) ∨ l.length < 64
    · rw [if_pos hq, if_pos (show _ from hq)]
      refine Ev_if_pos rfl (Ev_eq (Ev.now _) ?_)
      by_cases h : r < l.length ∧ kk l r = d.toList
      · simp only [if_pos h, decide_eq_true h]
      · simp only [if_neg h, decide_eq_false h]
    · rw [if_neg hq, if_neg (show ¬ _ from hq)]
      exact Ev_if_neg (by simp) (Ev.now _)
  · rw [if_neg h2]
    refine Ev_if_neg h2 ?_
    by_cases h3 : a = 3
    · rw [if_pos h3]
      refine Ev_if_pos h3 (Ev_eq (Ev.now _) ?_)
      by_cases h : r < l.length ∧ kk l r = d.toList
      · simp only [if_pos h, decide_eq_true h]
      · simp only [if_neg h, decide_eq_false h]
    · rw [if_neg h3]
      refine Ev_if_neg h3 ?_
      by_cases h4 : a = 4
      · rw [if_pos h4]
        refine Ev_if_pos h4 (hd.bind (Ev_eq (Ev.now _) ?_))
        by_cases h : r < l.length ∧ kk l r = d.toList
        · simp only [if_pos h, decide_eq_true h]
        · simp only [if_neg h, decide_eq_false h]
      · rw [if_neg h4]
        exact Ev_if_neg h4 (Ev.now _)
end Go.Proofs.YtalpmbeddldfoaaDoor.PA
