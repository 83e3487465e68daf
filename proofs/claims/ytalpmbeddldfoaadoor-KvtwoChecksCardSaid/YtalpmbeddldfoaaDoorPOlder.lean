/- Commands of the first version: what both schemas' tables come to. -/
import Derived.Test.YtalpmbeddldfoaaDoorPPut
set_option linter.unusedVariables false
set_option linter.unusedSimpArgs false
namespace Go.Proofs.YtalpmbeddldfoaaDoor.PA
open Go.RowKit Go.IntWalk Go.Proofs.YtalpmbeddldfoaaDoorW.PrintWords Go.Proofs.YtalpmbeddldfoaaDoor.Hand
def un (x : vA) : vA := ⟨x.f0, x.f1, 0⟩
theorem pg_un (l : List vA) (i : Nat) : pg (l.map un) i = un (pg l i) := by
  unfold pg
  rw [List.getD_eq_getElem?_getD, List.getD_eq_getElem?_getD, List.getElem?_map]
  cases l[i]? <;> rfl
theorem kk_un (l : List vA) (i : Nat) : kk (l.map un) i = kk l i := by
  show (pg (l.map un) i).f0.toList = _
  rw [pg_un]
  rfl
theorem UpP.un {l : List vA} (h : UpP l) : UpP (l.map un) := fun j h1 h2 => by
  rw [kk_un, kk_un]
  exact h j h1 (by simpa using h2)
theorem AtP.un {l : List vA} {c : List UInt8} {r : Nat} (h : AtP l c r) : AtP (l.map un) c r :=
  ⟨by rw [List.length_map]; exact h.le, fun j hj => by rw [kk_un]; exact h.lo j hj, fun j hj hk => by rw [kk_un]; exact h.hi j hj (by simpa using hk)⟩
theorem putP_un (l : List vA) (r : Nat) (x : vA) : (zW l r x).map un = zW (l.map un) r (un x) := by
  unfold zW
  rw [kk_un, List.length_map]
  by_cases h : r < l.length ∧ kk l r = x.f0.toList
  · rw [if_pos h]
    refine Eq.trans (by rw [List.map_set]) (if_pos h).symm
  · rw [if_neg h]
    refine Eq.trans ?_ (if_neg h).symm
    simp
theorem findP_at (l : List vA) (c : ByteArray) (hl : l.length ≤ 1000) (hu : UpP l) {r : Nat} (ha : AtP l c.toList r) :
    Ev (fun k => vC.f k l c) (if r < l.length ∧ kk l r = c.toList then ((pg l r).f0, (pg l r).f1, (pg l r).f2, true) else ((⟨#[]⟩ : ByteArray), (⟨#[]⟩ : ByteArray), 0, false)) := by
  obtain ⟨r', ha', hr⟩ := placeP_ev l c hl hu
  obtain rfl := ha.uniq ha'
  exact findP_ev l c hl hr
theorem kvput_ev (l : List vA) (x : vA) (hl : l.length ≤ 1000) (hu : UpP l) {r : Nat} (ha : AtP l x.f0.toList r) :
    Ev (fun k => zn.f k l x.f0 x.f1 x.f2) (if (r < l.length ∧ kk l r = x.f0.toList) ∨ l.length < 64 then (zW l r x, true) else (l, false)) := by
  obtain ⟨r', ha', hr⟩ := placeP_ev l x.f0 hl hu
  obtain rfl := ha.uniq ha'
  unfold zn.f
  refine hr.bind ?_
  dsimp only
  by_cases h : r < l.length ∧ kk l r = x.f0.toList
  · have := h.1
    rw [decide_eq_true h]
    (repeat (first | refine vp (by first | assumption | omega | rfl | trivial) ?_ | refine vw (by first | assumption | omega | (intro hh; have := of_decide_eq_true hh; first | contradiction | omega) | (simp; done)) ?_))
    refine zM (Ev.now _) (Eq.trans ?_ (if_pos (Or.inl h)).symm)
    unfold zW
    rw [if_pos h]
    rfl
  · rw [decide_eq_false h]
    refine vw (by simp) ?_
    by_cases h64 : l.length < 64
    · have e64 : (if (r < l.length ∧ kk l r = x.f0.toList) ∨ l.length < 64 then (zW l r x, true) else (l, false)) = (zW l r x, true) := if_pos (Or.inr h64)
      rw [e64]
      refine vw (by omega) ?_
      have hi := insertP l hl r ha.le x
      refine Ev_bindO hi (zM (Ev.now _) ?_)
      unfold zW
      rw [if_neg h]
    · have e64 : (if (r < l.length ∧ kk l r = x.f0.toList) ∨ l.length < 64 then (zW l r x, true) else (l, false)) = (l, false) := if_neg (by rintro (h' | h') <;> contradiction)
      rw [e64]
      exact vp (by omega) (Ev.now _)
def delP (l : List vA) (r : Nat) (c : List UInt8) : List vA := if r < l.length ∧ kk l r = c then l.take r ++ l.drop (r + 1) else l
theorem delP_un (l : List vA) (r : Nat) (c : List UInt8) : (delP l r c).map un = delP (l.map un) r c := by
  unfold delP
  rw [kk_un, List.length_map]
  by_cases h : r < l.length ∧ kk l r = c
  · rw [if_pos h, if_pos h]; simp
  · rw [if_neg h, if_neg h]
theorem delP_len (l : List vA) (r : Nat) (c : List UInt8) : (delP l r c).length ≤ l.length := by
  unfold delP
  split
  · simp; omega
  · omega
theorem kvdel_ev (l : List vA) (c : ByteArray) (hl : l.length ≤ 1000) (hu : UpP l) {r : Nat} (ha : AtP l c.toList r) :
    Ev (fun k => zo.f k l c) (delP l r c.toList) := by
  obtain ⟨r', ha', hr⟩ := placeP_ev l c hl hu
  obtain rfl := ha.uniq ha'
  unfold zo.f
  refine hr.bind ?_
  dsimp only
  by_cases h : r < l.length ∧ kk l r = c.toList
  · have := h.1
    rw [decide_eq_true h]
    refine vp rfl ?_
    have e2 := zu r (by omega)
    have hd : zt.f l (r : Int) (wrap64 ((r : Int) + 1)) = some (l.take r ++ l.drop (r + 1)) := by
      rw [e2]
      simp only [zt.f, Option.bind_some, Int.toNat_natCast]
      rw [if_pos (by omega), if_pos (by omega), if_pos (by omega), if_pos (by omega), if_pos (by simp; omega), if_pos (by omega), if_pos (by simp; omega)]
      simp
    refine Ev_bindO hd (zM (Ev.now _) ?_)
    unfold delP
    rw [if_pos h]
  · rw [decide_eq_false h]
    refine vw (by simp) (zM (Ev.now _) ?_)
    unfold delP
    rw [if_neg h]
def oldDo (l : List vA) (r : Nat) (a b c : Int) (d e : ByteArray) : (List vA) × Int × Int × Int × Bool × ByteArray × Int :=
  if a = 2 then (if (r < l.length ∧ kk l r = d.toList) ∨ l.length < 64 then (zW l r ⟨d, e, 0⟩, b, c, 0, decide (r < l.length ∧ kk l r = d.toList), (if r < l.length ∧ kk l r = d.toList then (pg l r).f1 else ⟨#[]⟩), 0) else (l, b, c, 11, false, ⟨#[]⟩, 0))
  else if a = 3 then (l, b, c, 0, decide (r < l.length ∧ kk l r = d.toList), (if r < l.length ∧ kk l r = d.toList then (pg l r).f1 else ⟨#[]⟩), 0)
  else if a = 4 then (delP l r d.toList, b, c, 0, decide (r < l.length ∧ kk l r = d.toList), (if r < l.length ∧ kk l r = d.toList then (pg l r).f1 else ⟨#[]⟩), 0)
  else (l, b, c, 8, false, ⟨#[]⟩, 0)
theorem oldDo_ev (l : List vA) (hl : l.length ≤ 1000) (hu : UpP l) (a b c : Int) (d e f : ByteArray) (g : Int) {r : Nat} (ha : AtP l d.toList r) :
    Ev (fun k => zv.f k l a b c d e f g) (oldDo l r a b c d e) := by
  have hf := findP_at l d hl hu ha
  have hp := kvput_ev l ⟨d, e, 0⟩ hl hu (r := r) ha
  have hd := kvdel_ev l d hl hu ha
  have hc := cloneP l hl
  unfold zv.f oldDo
  refine Ev_bindO hc (hf.bind ?_)
  by_cases h2 : a = 2
  · rw [if_pos h2]
    refine vp h2 (hp.bind ?_)
    by_cases hq : (r < l.length ∧ kk l r = d.toList) ∨ l.length < 64
    · rw [if_pos hq, if_pos (show _ from hq)]
      refine vp rfl (zM (Ev.now _) ?_)
      by_cases h : r < l.length ∧ kk l r = d.toList
      · simp only [if_pos h, decide_eq_true h]
      · simp only [if_neg h, decide_eq_false h]
    · rw [if_neg hq, if_neg (show ¬ _ from hq)]
      exact vw (by simp) (Ev.now _)
  · rw [if_neg h2]
    refine vw h2 ?_
    by_cases h3 : a = 3
    · rw [if_pos h3]
      refine vp h3 (zM (Ev.now _) ?_)
      by_cases h : r < l.length ∧ kk l r = d.toList
      · simp only [if_pos h, decide_eq_true h]
      · simp only [if_neg h, decide_eq_false h]
    · rw [if_neg h3]
      refine vw h3 ?_
      by_cases h4 : a = 4
      · rw [if_pos h4]
        refine vp h4 (hd.bind (zM (Ev.now _) ?_))
        by_cases h : r < l.length ∧ kk l r = d.toList
        · simp only [if_pos h, decide_eq_true h]
        · simp only [if_neg h, decide_eq_false h]
      · rw [if_neg h4]
        exact vw h4 (Ev.now _)
end Go.Proofs.YtalpmbeddldfoaaDoor.PA
