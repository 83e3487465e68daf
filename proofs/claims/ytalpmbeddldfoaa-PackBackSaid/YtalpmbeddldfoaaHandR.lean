/- What a parameter's data say in the kinds' own words: a walk down the type, for whole numbers, bools, strings, structs, rows. -/
import Derived.Test.YtalpmbeddldfoaaVAll
import Derived.ChangeArms
import Derived.ChangeShapes
import Derived.WideShapes
import Derived.Deep.Slices
import Derived.SizedLaws
set_option linter.unusedSimpArgs false
set_option linter.unusedVariables false
namespace Go.Proofs.Ytalpmbeddldfoaa.Hand
open Go.RowKit Go.Proofs.YtalpmbeddldfoaaW.PrintWords Go.WideShapes Go.ChangeShapes Go.Deep
/-- Whatever data lie there, the cells say an element of the kind, of which Q holds. -/
def Opens (P : Program) (t : TypeId) {α : Type} (d : Kd α) (Q : α → Prop) : Prop :=
  ∀ {H : Type} (enc : TypeId × Value → H) (w : World) (spare : Nat → Bool) (held : Bool) (fuel : Nat) (cs : List Value) (x : DataW H × List MemPlace),
    DataW.trod enc P w 0 spare held fuel t cs = some x → ∃ a, d.K w a cs ∧ Q a
theorem opens_int {P : Program} {t : TypeId} {k : IntKind} (ht : P.underlying t = some (.int k)) : Opens P t (Kd.int k) (fun n => (Lit.int k n).wf = true) := by
  intro H enc w spare held fuel cs x h
  obtain ⟨n, rfl, _, hw⟩ := DataW.trod_int ht h
  exact ⟨n, rfl, hw⟩
theorem opens_bool {P : Program} {t : TypeId} (ht : P.underlying t = some .bool) : Opens P t Kd.bool (fun _ => True) := by
  intro H enc w spare held fuel cs x h
  obtain ⟨b, rfl, _⟩ := DataW.trod_bool ht h
  exact ⟨b, rfl, trivial⟩
theorem opens_string {P : Program} {t : TypeId} (ht : P.underlying t = some .string) : Opens P t Kd.string (fun s => s.size ≤ maxLen) := by
  intro H enc w spare held fuel cs x h
  obtain ⟨s, rfl, _, hs⟩ := DataW.trod_string ht h
  exact ⟨s, rfl, hs⟩
theorem field_open {P : Program} {t : TypeId} {α : Type} {d : Kd α} {Q : α → Prop} (ho : Opens P t d Q) {H : Type} {enc : TypeId × Value → H} {w : World} {spare : Nat → Bool} {held : Bool} {n : Nat} {cs : List Value} {xs : List (DataW H × List MemPlace)} {i m : Nat}
    (hl : xs.length = m) (hi : i < m) (h : DataW.trod enc P w 0 spare held n t cs = xs[i]?) : ∃ a, d.K w a cs ∧ Q a := by
  rw [List.getElem?_eq_getElem (by omega)] at h
  exact ho enc w spare held n cs _ h
theorem part_cut (cs : List Value) (o c : Nat) : cs.drop o = (cs.drop o).take c ++ cs.drop (o + c) := by rw [← List.drop_drop]; exact (List.take_append_drop _ _).symm
theorem part_last (cs : List Value) (o c n : Nat) (h : cs.length = n) (hn : n = o + c) : (cs.drop o).take c = cs.drop o := List.take_of_length_le (by rw [List.length_drop]; omega)
/-- A ROW: its elements, in order, and what holds of each. -/
theorem opens_row {P : Program} {t e : TypeId} {α : Type} {d : Kd α} {Q : α → Prop} (ho : Opens P e d Q) (ht : P.underlying t = some (.slice e)) (hs : P.cellsOf e = d.sz) (z : α) {H : Type} {enc : TypeId × Value → H} {w : World} {spare : Nat → Bool} {held : Bool} {A : Option Addr} {len cap : Nat} {dd : DataW H} {ps : List MemPlace}
    (h : DataW.Trod enc P w 0 spare held t (.slice A len cap) dd ps) : ∃ l : List α, l.length = len ∧ len ≤ cap ∧ cap ≤ maxLen ∧ d.C w A l.length l ∧ (∀ x ∈ l, Q x) := by
  obtain ⟨fuel, h⟩ := h
  rcases open_slice ht h with ⟨hc, _⟩ | ⟨a, l', c', m, n, D, Pl, hc, _, hl, hm, hmm, _, hx⟩
  · simp [Value.cells] at hc
    obtain ⟨rfl, rfl, rfl⟩ := hc
    exact ⟨[], rfl, Nat.le_refl _, by decide, ⟨rfl, Nat.zero_le _, fun h => absurd h (Nat.lt_irrefl 0)⟩, by simp⟩
  · simp [Value.cells] at hc
    obtain ⟨rfl, rfl, rfl⟩ := hc
    haveI : Inhabited α := ⟨z⟩
    have hlm : len ≤ m := by rw [hmm]; split <;> omega
    obtain ⟨V, hV⟩ := choose_lt (α := α) (n := len) (p := fun i v => Q v ∧ ∃ c, c.length = d.sz ∧ d.K w v c ∧ ∀ j u, c[j]? = some u → w.cell? (a.add (i * d.sz + j)) = some u) (fun i hi => by
      obtain ⟨cs', h1, h2⟩ := hx i (Nat.lt_of_lt_of_le hi hlm)
      obtain ⟨v, hk, hq⟩ := ho enc w spare held n cs' _ h2
      obtain ⟨_, hlen, hcell⟩ := World.cells?_some h1
      refine ⟨v, hq, cs', by rw [hlen, hs], hk, fun j u hj => ?_⟩
      have hjl : j < P.cellsOf e := by rw [← hlen]; exact (List.getElem?_eq_some_iff.1 hj).1
      have := hcell j hjl
      rw [hj, hs] at this
      rw [← this]
      rw [Go.Deep.add_add])
    refine ⟨(List.range len).map V, by simp, hl, hm, ⟨by simp, by have : maxLen = 9223372036854775807 := rfl; rw [List.length_map, List.length_range]; omega, fun _ => ⟨a, rfl, fun j p hp => ?_⟩⟩, fun x hx => ?_⟩
    · rw [List.getElem?_map] at hp
      obtain ⟨j', hj', rfl⟩ := Option.map_eq_some_iff.1 hp
      obtain ⟨hjl, rfl⟩ := List.getElem?_eq_some_iff.1 hj'
      rw [List.getElem_range]
      exact (hV j (by simpa using hjl)).2
    · obtain ⟨j, hj, rfl⟩ := List.mem_map.1 hx
      exact (hV j (by simpa using hj)).1
/-- A struct as a parameter: its cells. -/
theorem opens_agg {P : Program} {t : TypeId} {α : Type} {d : Kd α} {Q : α → Prop} (ho : Opens P t d Q) {fs : Array Field} (ht : P.underlying t = some (.struct fs)) {r : Reach} {W w : World} {b0 : Nat} {H : Type} {enc : TypeId × Value → H} {spare : Nat → Bool} {held : Bool} {v : Value} {dd : DataW H} {ps : List MemPlace}
    (hv : Value.okWide P W r b0 t v) (h : DataW.Trod enc P w 0 spare held t v dd ps) : ∃ (x : α) (cs : List Value), v = .agg cs.toArray ∧ d.K w x cs ∧ Q x := by
  obtain ⟨fuel, h⟩ := h
  obtain ⟨cs, rfl, _⟩ := okWide_struct ht hv
  obtain ⟨x, hk, hq⟩ := ho enc w spare held fuel _ _ h
  exact ⟨x, cs.toList, by simp, hk, hq⟩
theorem row_sized {P : Program} {t e : TypeId} {H : Type} {enc : TypeId × Value → H} {W : World} {base : Nat} {spare : Nat → Bool} {held : Bool} {a : Option Addr} {len cap : Nat} {d : DataW H} {ps : List MemPlace} {ts : List TypeId} {ds : List (DataW H)} {j : Nat}
    (hsz : (DataW.weightsEach P ts ds).all (· ≤ reachBytes) = true) (ht : ts[j]? = some t) (hd : ds[j]? = some d) (hu : P.underlying t = some (.slice e)) (h : DataW.Trod enc P W base spare held t (.slice a len cap) d ps) : len * P.bytesOf e ≤ reachBytes := by
  obtain ⟨fuel, h⟩ := h
  rcases open_slice hu h with ⟨hc, _⟩ | ⟨a, l', c', m, n, D, Pl, hc, _, _, _, _, hx, _⟩
  · simp [Value.cells] at hc
    obtain ⟨rfl, rfl, rfl⟩ := hc
    exact Nat.le_trans (by simp) (Nat.zero_le _)
  · simp [Value.cells] at hc
    obtain ⟨rfl, rfl, rfl⟩ := hc
    obtain ⟨rfl, _⟩ := Prod.mk.inj hx
    have z := sized_slice hsz ht hd hu
    rw [List.length_map, List.length_range] at z
    exact Nat.le_trans (Nat.mul_le_mul_right _ (Nat.le_add_right _ _)) z
end Go.Proofs.Ytalpmbeddldfoaa.Hand
