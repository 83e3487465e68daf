/- Laws for slices.Insert and slices.Delete at elements of any size: copies, cuts, rows of zeros that grow, overlaps. -/
import Derived.Test.YtalpmbeddldfoaaDoorHandU8
import Derived.Test.YtalpmbeddldfoaaDoorVAll
import Derived.Lib.Overlaps
import Derived.Deep.RegionLaw
import Derived.Shelf.Spec.SlicesInsert
set_option linter.unusedSimpArgs false
set_option linter.unusedVariables false
namespace Go.Proofs.YtalpmbeddldfoaaDoor.Hand
open Go.RowKit Go.Proofs.YtalpmbeddldfoaaDoorW.PrintWords
section
variable {P : Program}
theorem cut_upto (t e : TypeId) (kh : IntKind) {i : TypeInfo} (ht : P.underlying t = some (.slice e)) (hi : P.info? e = some i) (A : Option Addr) (n c : Nat) (j : Int) (h0 : 0 ≤ j) (hc : j ≤ c) :
 ∀ W : World, (Instr.slice t (.slice A n c) none (some (.int kh j)) none).run P W = .ok (.slice A j.toNat c) W := by
 intro W
 have hel : P.elem t = e := by simp [Program.elem, ht]
 have hu : P.underlying t = some (.slice (P.elem t)) := by rw [hel]; exact ht
 have ha : (A.map fun x => x.add 0) = A := by cases A <;> simp [Addr.add]
 rw [run_slice_h W t A n c hu kh j h0 hc, hel]
 simp [sizeOf, typeInfo, hi, sliced, Result.andThen, ha]
def Vb (L : List Value) (off : Nat) (cs : List Value) : List Value := L.take off ++ (cs ++ L.drop (off + cs.length))
theorem Qa (L : List Value) (off : Nat) (cs : List Value) (h : off + cs.length ≤ L.length) : (Vb L off cs).length = L.length := by simp [Vb]; omega
theorem spl_nil (L : List Value) (off : Nat) : Vb L off [] = L := by simp [Vb]
structure Copied (P : Program) (w w1 : World) (g : Nat) (cur : List Value) (t : TypeId) : Prop where
 row : w1.heap[g]? = some (.cells cur.toArray t (0, 0))
 grown : w.grownBy w1 (some g)
 size : w1.heap.size = w.heap.size
theorem ji (w : World) (dT sT ty elem : TypeId) (sz : Nat) (hsz : 0 < sz) (hu : P.underlying dT = some (.slice elem)) (hs : (P.info? elem).map (·.size) = some sz) (dp sp : Option Addr) (dLen dCap sLen sCap : Nat)
 (g off : Nat) (cur : List Value) (t : TypeId) (hg : w.heap[g]? = some (.cells cur.toArray t (0, 0))) (cs : List Value) (hn : cs.length = Nat.min sLen dLen * sz)
 (hpos : 0 < cs.length → dp = some ⟨g, off, none⟩ ∧ ∃ ad, sp = some ad ∧ ∀ j v, cs[j]? = some v → w.cell? (ad.add j) = some v)
 (hfit : off + cs.length ≤ cur.length) (h1 : ∀ v ∈ cs, v.oneCell' = true) :
 ∃ w1, (Builtin.copy_ #[dT, sT] ty #[.slice dp dLen dCap, .slice sp sLen sCap]).run P w = .ok (goInt (Nat.min sLen dLen)) w1 ∧ Copied P w w1 g (Vb cur off cs) t := by
 cases hq : P.info? elem with
 | none => simp [hq] at hs
 | some i =>
  have hi : i.size = sz := by simpa [hq] using hs
  by_cases h0 : cs.length = 0
  ·obtain rfl : cs = [] := List.eq_nil_of_length_eq_zero h0
   have hm : Nat.min sLen dLen = 0 := by
    rcases Nat.eq_zero_or_pos (Nat.min sLen dLen) with h | h
    ·exact h
    ·have := Nat.mul_pos h hsz
     simp at hn
     omega
   refine ⟨w, ?_, ⟨by rw [spl_nil]; exact hg, ⟨rfl, rfl, rfl, Nat.le_refl _, fun _ _ _ => rfl⟩, rfl⟩⟩
   have hl : (loadCells (sp.getD default) 0).run P w = .ok #[] w := rfl
   cases sp with
   | none => cases dp <;> simp [Builtin.copy_, run_underlying hu, Builtin.lenOf, Builtin.firstCells, sizeOf, typeInfo, hq, hi, hm, storeCells]
   | some a =>
    have hl : (loadCells a 0).run P w = .ok #[] w := rfl
    cases dp <;> simp [Builtin.copy_, run_underlying hu, Builtin.lenOf, Builtin.firstCells, sizeOf, typeInfo, hq, hi, hm, storeCells, hl]
  ·obtain ⟨rfl, ad, rfl, hsrc⟩ := hpos (by omega)
   have hl := run_loadCells_list (P := P) w ad cs hsrc
   have hst := run_storeCells_at P g off t cs 0 cur.toArray w hg (by simpa using hfit) h1
   refine ⟨w.setRow g (Vb cur off cs).toArray, ?_, ⟨?_, ⟨rfl, rfl, rfl, by simp [World.setRow], fun k hk hne => setRow_other w g k _ (fun e => hne (by rw [e]))⟩, by simp [World.setRow]⟩⟩
   ·simp only [Nat.add_zero, List.toList_toArray, List.append_assoc] at hst
    simp [Builtin.copy_, run_underlying hu, Builtin.lenOf, Builtin.firstCells, sizeOf, typeInfo, hq, hi, ← hn, hl, hst, Vb]
   ·exact setRow_heap w g cur.toArray _ t _ hg
theorem Ve (w : World) (tS tR e : TypeId) (ht : P.underlying tS = some (.slice e)) (size : Nat) (hz : ∀ w, (Go.sizeOf e).run P w = .ok size w)
 (a b : Addr) (la ca lb cb : Nat) (hne : a.block ≠ b.block) (tA tB : TypeId) (kA kB : Nat)
 (hsa : w.shape? a.block = some (tA, kA)) (hsb : w.shape? b.block = some (tB, kB)) (hkA : kA ≠ 0) (hkB : kB ≠ 0)
 (hfb : w.frozen? b = false) (hfe : w.frozen? { block := b.block, off := kB } = false) :
 (Extern.SlicesOverlaps.overlaps #[tS, tS] #[tR] #[.slice (some a) la ca, .slice (some b) lb cb]).run P w = .ok (.bool false) w := by
 have hnb : (a.block != b.block) = true := by simpa using hne
 have hnb' : (a.block == b.block) = false := by simpa using hne
 change Sem.run P (α := Value) (do
  let some t := (#[tS, tS] : Array TypeId)[0]? | stuck "slices.overlaps: no parameter types"
  let .slice elem ← underlying t | stuck "slices.overlaps: slice type expected"
  let size ← sizeOf elem
  match (some a : Option Addr), (some b : Option Addr) with
  | some a, some b =>
   if la = 0 ∨ lb = 0 ∨ size = 0 then pure (Value.bool false)
   else if a.block != b.block && (← frozen a) && (← frozen b) then unsupported .addressObserved
   else do
    if a.block != b.block then do
     noView a; noView b
     if ← mayBeOne a b then return Value.bool ((← choose (.extern "sameAddr.stringBytes" 2)) == 1)
    pure (Value.bool (a.block == b.block && a.off < b.off + lb * size && b.off < a.off + la * size))
  | _, _ => pure (Value.bool false)) w = _
 by_cases h0 : la = 0 ∨ lb = 0 ∨ size = 0
 ·simp [run_underlying ht, hz, h0]
 ·obtain ⟨kA, rfl⟩ : ∃ q, kA = q + 1 := ⟨kA - 1, by omega⟩
  cases kB with
  | zero => exact absurd rfl hkB
  | succ kB =>
   cases hfa : w.frozen? a <;> cases hfA : w.frozen? { block := a.block, off := kA + 1 } <;>
    simp [run_underlying ht, hz, h0, hnb, hnb', frozen, noView, viewAt, mayBeOne, stringish, shape, Sem.run, hsa, hsb, hfa, hfA, hfb, hfe]
theorem Zh (w : World) (t ti ty e : TypeId) (i : TypeInfo) (z : Value) (size bytes : Nat) (ht : P.underlying t = some (.slice e)) {k : IntKind} (hti : P.underlying ti = some (.int k)) (hi : P.info? e = some i) (hz : i.zero = some z)
 (hsize : i.size = size) (hby : i.bytes = bytes) (hzs : z.cells.size = size) (hsz : 0 < size) (hb0 : 0 < bytes)
 (A : Option Addr) (n cap : Nat) (xs : List Value) (hxl : xs.length = n * size) (hcells : 0 < xs.length → ∃ ad, A = some ad ∧ ∀ j u, xs[j]? = some u → w.cell? (ad.add j) = some u) (kx : IntKind) (m : Nat) (hm : 0 < m) (hcap : cap < n + m)
 (hbytes : (n + m) * bytes ≤ 140737488355328) :
 ∃ (c : Nat) (rest : List Value) (w' : World), (Builtin.append_ #[t, ti] ty #[.slice A n cap, .int kx m]).run P w = .ok (.slice (some ⟨w.heap.size, 0, none⟩) (n + m) c) w' ∧ n + m ≤ c ∧ c ≤ maxLen ∧ (xs ++ rest).length = c * size ∧
  w'.heap[w.heap.size]? = some (.cells (xs ++ rest).toArray e (0, 0)) ∧ Below w.heap.size w w' ∧ w'.heap.size = w.heap.size + 1 := by
 subst hsize
 subst hby
 have hle : n + m ≤ 140737488355328 := Nat.le_trans (Nat.le_mul_of_pos_right _ hb0) hbytes
 have h63 : n + m ≤ maxLen := by simp only [maxLen]; omega
 have hw : IntKind.i64.wrap (m : Int) = m := by rw [IntKind.wrap_i64]; omega
 have hneg : ¬ ((m : Int) < 0) := by omega
 have hmb : m * i.bytes ≤ 140737488355328 := Nat.le_trans (Nat.mul_le_mul_right _ (Nat.le_add_left m n)) hbytes
 have hbig : ¬ (281474976710656 < (m : Int) * (i.bytes : Int)) := by
  rw [← Int.natCast_mul]
  omega
 have hsn : i.size ≠ 0 := by omega
 obtain ⟨news, hnews⟩ : ∃ news, news = (Builtin.zeroCells z.cells m).toList := ⟨_, rfl⟩
 have hl : news.length = m * i.size := by rw [hnews, Array.length_toList, size_zeroCells, hzs]
 have hna : Builtin.zeroCells z.cells m = news.toArray := by rw [hnews]
 have hlen : (xs ++ news).length = (n + m) * i.size := by rw [List.length_append, hxl, hl, Nat.add_mul]
 have hge := grownCap_ge w (n + m) cap e
 have hcm : grownCap w (n + m) cap e ≤ maxLen := grownCap_le_maxLen w (n + m) cap e h63
 have hfo : (Builtin.firstCells i.size n (.slice A n cap)).run P w.drew = .ok xs.toArray w.drew := by
  by_cases h0 : xs.length = 0
  ·obtain rfl : xs = [] := List.eq_nil_of_length_eq_zero h0
   cases A with
   | none => rfl
   | some a =>
    have hn0 : n * i.size = 0 := by simpa using hxl.symm
    simp [Builtin.firstCells, hn0]
    rfl
  ·obtain ⟨ad, rfl, hc⟩ := hcells (by omega)
   exact run_firstCells_some (P := P) w.drew i.size n _ n cap xs hxl (by simpa using hc)
 have hn : ¬ (n + m ≤ cap) := by omega
 have h63' : ¬ (9223372036854775807 < ((n : Int) + (m : Int))) := by omega
 have hfit := growslice_fits hcap hbytes
 have h48' : ¬ (281474976710656 < Builtin.nextslicecap (n + m) cap * i.bytes) := by omega
 have hmz : ¬ (m * i.size = 0) := Nat.mul_ne_zero (by omega) hsn
 refine ⟨grownCap w (n + m) cap e, news ++ (Builtin.zeroCells z.cells (grownCap w (n + m) cap e - (n + m))).toList, w.drew.alloc (.cells (xs.toArray ++ news.toArray ++ Builtin.zeroCells z.cells (grownCap w (n + m) cap e - (n + m))) e), ?_, hge, hcm, ?_, ?_, ?_, by simp⟩
 ·simp [Builtin.append_, run_underlying ht, run_underlying hti, sizeOf, typeInfo, zeroValue, hi, hz, asInt, asIntOf, hw, hneg, hbig, hn, h63', h48', Question.forced, hfo, newRow, grownCap, hmz, hna]
  congr 2
  apply Array.ext'
  simp [List.append_assoc]
 ·rw [← List.append_assoc, List.length_append, hlen, Array.length_toList, size_zeroCells, hzs, ← Nat.add_mul]
  congr 1
  omega
 ·rw [show (xs ++ (news ++ (Builtin.zeroCells z.cells (grownCap w (n + m) cap e - (n + m))).toList)).toArray = xs.toArray ++ news.toArray ++ Builtin.zeroCells z.cells (grownCap w (n + m) cap e - (n + m)) by apply Array.ext'; simp]
  exact heap_alloc_new w.drew _
 ·exact ⟨rfl, rfl, rfl, by simp, fun k hk => heap_alloc_old w.drew _ hk⟩
end
theorem Qc {α : Type} {d : Kd α} {e : Nat} {w : World} {base : Nat} {ok : Nat → Prop} {g N cap : Nat} {xs : List α} {cells cur : List Value}
 (hflat : ∀ (w' : World) (base' : Nat) (ok' : Nat → Prop) (x : α) (cs : List Value), d.K w' x cs → ∀ (w2 : World), d.M w2 base' ok' x cs)
 {Rr : α → List Value → Prop} {wr : World} (hR : ∀ x cs, Rr x cs → d.K wr x cs) (hr : zj Rr d.sz xs cells) (hN : xs.length = N) (hok : ok g) (hb : base ≤ g) (hg : w.heap[g]? = some (.cells cur.toArray e (0, 0)))
 (hc : N ≤ cap) (hcm : cap ≤ maxLen) (hcs : cur.length = cap * d.sz) (ht : cur.take (N * d.sz) = cells) : d.R e w base ok (.slice (some ⟨g, 0, none⟩) N cap) xs := by
 refine ⟨fun k hk => ?_, cells, ⟨by rw [hr.1], .inr ⟨g, cap, cur.toArray, by rw [hN], hb, hg, by rw [hN]; exact hc, hcm, by simpa using hcs, by rw [hN]; simpa using ht⟩⟩, hr.imp_ (fun x cs hx => hflat wr base _ x cs (hR x cs hx) w)⟩
 have : g = k := by simpa [Value.ownBlock] using hk
 rw [← this]
 exact hok
theorem QT {α : Type} {R : α → List Value → Prop} {size : Nat} {ps qs : List α} {cs ds : List Value} (h : zj R size ps cs) (h' : zj R size qs ds) : zj R size (ps ++ qs) (cs ++ ds) := Kd.Vi h h'
theorem jB {α : Type} {d : Kd α} {w : World} {xs : List α} {cells : List Value} (hs0 : 0 < d.sz) (h : zj (d.K w) d.sz xs cells) : ∀ u ∈ cells, u.oneCell' = true := by
 intro u hu
 obtain ⟨q, hq, rfl⟩ := List.mem_iff_getElem.1 hu
 have hql : q / d.sz < xs.length := by
  rw [Nat.div_lt_iff_lt_mul hs0, ← h.1]
  exact hq
 refine d.K_one (h.2 (q / d.sz) _ (List.getElem?_eq_getElem hql)) _ ?_
 rw [List.mem_iff_getElem?]
 refine ⟨q % d.sz, ?_⟩
 rw [List.getElem?_take, if_pos (Nat.mod_lt _ hs0), List.getElem?_drop, Nat.mul_comm, Nat.div_add_mod, List.getElem?_eq_getElem hq]
section
variable {P : Program} {ops : Array Oper} {rest : List Oper} {o : Oper} {a : Act} {Q : Exit → Act → World → Prop}
theorem QL (w : World) (hgd : o.guard = none) (s x : Operand) (t t' : TypeId) (ho : o.op = .call { callee := .builtin .append, args := #[s, x], argTypes := #[t, t'] }) (v u : Value) (hs : a.eval s = v) (hx : a.eval x = u)
 {v' : Value} {w' : World} (hr : (Builtin.append_ #[t, t'] o.type #[v, u]).run P w = .ok v' w') (h : wpList P ops Q rest (a.put o.dst v') w') : wpList P ops Q (o :: rest) a w := by
 refine wpList_plain hgd fun K hK => ?_
 unfold Oper.wp execOp
 simp only [ho, resolve, invoke, builtin, Sem.run_bind, Sem.run_pure, Result.andThen_ok, List.map_toArray, List.map_cons, List.map_nil, hs, hx, hr]
 exact hK _ _ h
end
theorem spl_shift (cur inner vc : List Value) (I N : Nat) (hI : I ≤ N) (hN : N + vc.length ≤ cur.length) (hin : cur.take N = inner) :
 (Vb (Vb cur (I + vc.length) (inner.drop I)) I vc).take (N + vc.length) = inner.take I ++ (vc ++ inner.drop I) := by
 have hil : inner.length = N := by rw [← hin, List.length_take]; omega
 have h1 : (Vb cur (I + vc.length) (inner.drop I)).take I = inner.take I := by
  unfold Vb
  rw [List.take_append_of_le_length (by rw [List.length_take]; omega), List.take_take, Nat.min_eq_left (by omega), ← hin, List.take_take, Nat.min_eq_left hI]
 have h2 : (Vb cur (I + vc.length) (inner.drop I)).drop (I + vc.length) = inner.drop I ++ cur.drop (I + vc.length + (inner.drop I).length) := by
  unfold Vb
  rw [List.drop_append_of_le_length (by rw [List.length_take]; omega), List.drop_eq_nil_of_le (by rw [List.length_take]; omega), List.nil_append]
 show (List.take I _ ++ (vc ++ List.drop (I + vc.length) _)).take _ = _
 rw [h1, h2, ← List.append_assoc, ← List.append_assoc, List.take_append_of_le_length (by simp; omega), List.take_of_length_le (by simp; omega), List.append_assoc]
theorem spl_fill (cur0 rest vc D : List Value) (I N : Nat) (hI : I = cur0.length) (hD : D.length = N - I) (hIN : I ≤ N) (hN : N + vc.length ≤ (cur0 ++ rest).length) :
 (Vb (Vb (cur0 ++ rest) I vc) (I + vc.length) D).take (N + vc.length) = cur0 ++ (vc ++ D) := by
 have h1 : (Vb (cur0 ++ rest) I vc).take (I + vc.length) = cur0 ++ vc := by
  unfold Vb
  subst hI
  rw [List.take_left, ← List.append_assoc, List.take_append_of_le_length (by simp), List.take_of_length_le (by simp)]
 show (List.take (I + vc.length) _ ++ (D ++ _)).take _ = _
 rw [h1, ← List.append_assoc, List.take_append_of_le_length (by simp; omega), List.take_of_length_le (by simp; omega), List.append_assoc]
theorem Zs {α : Type} {d : Kd α} {w : World} {S : Nat → Prop} {ad : Addr} {m : Nat} {xs : List α} {g : Nat} (h : ∀ W_, Kept w W_ S → d.C W_ (some ad) m xs) (hm : 0 < m) (hsz : 0 < d.sz) (hg : S g) : ad.block ≠ g := by
 intro he
 have hk : Kept w { w with heap := w.heap.setIfInBounds g (.map #[] 0) } S := ⟨by simp, fun i hi hn => by
  have : g ≠ i := by
   rintro rfl
   exact hn hg
  simp [Array.getElem?_setIfInBounds, this]⟩
 have hC := h _ hk
 obtain ⟨ad', hA, hx⟩ := hC.2.2 hm
 injection hA with hA
 subst hA
 obtain ⟨c, hc, _, hcell⟩ := hx 0 _ (List.getElem?_eq_getElem (show 0 < xs.length by have := hC.1; omega))
 have := hcell 0 _ (List.getElem?_eq_getElem (by omega))
 have hb := World.block_lt_of_cell? _ _ this
 rw [Nat.zero_mul, Nat.add_zero] at this hb
 have e0 : ad.add 0 = ad := by simp [Addr.add]
 rw [e0] at this hb
 simp only [World.cell?] at this
 rw [he] at this hb
 simp at hb
 rw [Array.getElem?_setIfInBounds_self_of_lt (by simpa using hb)] at this
 cases this
theorem cell_same {w w1 : World} {b : Nat} (h : w1.heap[b]? = w.heap[b]?) (j : Nat) (s : Option _) : w1.cell? ⟨b, j, s⟩ = w.cell? ⟨b, j, s⟩ := by simp [World.cell?, h]
theorem jD (a : Addr) (j : Nat) : (a.add j).block = a.block := by unfold Addr.add; split <;> rfl
theorem VE {w w1 : World} {a : Addr} (h : w1.heap[a.block]? = w.heap[a.block]?) : w1.cell? a = w.cell? a := by simp [World.cell?, h]
section
variable {P : Program}
theorem run_append_row (w : World) (t ty e : TypeId) (sz : Nat) (hsz : 0 < sz) (inf : TypeInfo) (ht : P.underlying t = some (.slice e)) (hi : P.info? e = some inf) (hs : inf.size = sz) (g i c m c2 : Nat) (sp : Option Addr) (cur : List Value) (t' : TypeId)
 (hg : w.heap[g]? = some (.cells cur.toArray t' (0, 0))) (cs : List Value) (hn : cs.length = m * sz) (hsp : ∃ ad, sp = some ad ∧ ∀ j v, cs[j]? = some v → w.cell? (ad.add j) = some v) (hroom : i + m ≤ c) (hfit : i * sz + cs.length ≤ cur.length) (h1 : ∀ v ∈ cs, v.oneCell' = true) :
 ∃ w1, (Builtin.append_ #[t, t] ty #[.slice (some ⟨g, 0, none⟩) i c, .slice sp m c2]).run P w = .ok (.slice (some ⟨g, 0, none⟩) (i + m) c) w1 ∧ Copied P w w1 g (Vb cur (i * sz) cs) t' := by
 subst hs
 obtain ⟨ad, rfl, hc⟩ := hsp
 have hrun := run_append_room_cells (P := P) (w := w) t ty e inf ht hi g 0 i c ad m c2 cs hn hc h1 hroom
  (fun j hj => by rw [cell_of_row w g _ cur.toArray t' (0, 0) hg]; simp; omega) (fun j _ => qg hg _)
 rw [Nat.zero_add] at hrun
 obtain ⟨cur', h3, h4, h5⟩ := jw cs (i * inf.size) w cur.toArray hg (by simpa using hfit)
 obtain ⟨s1, s2, s3, s4⟩ := jr g cs (i * inf.size) w
 refine ⟨_, hrun, ⟨?_, ⟨s1, s2, s3, by rw [s4]; exact Nat.le_refl _, fun k _ hk => jx cs _ k (fun he => hk (by rw [he]))⟩, s4⟩⟩
 rw [h3]
 congr 2
 apply Array.ext'
 rw [h5]
 simp [Vb]
theorem run_clear_gen (w : World) (t e ty : TypeId) (z : Value) (sz : Nat) (hsz : 0 < sz) (inf : TypeInfo) (ht : P.underlying t = some (.slice e)) (hi : P.info? e = some inf) (hz : inf.zero = some z) (hzs : z.cells.size = sz) (dp : Option Addr) (n c g off : Nat) (cur : List Value) (t' : TypeId)
 (hg : w.heap[g]? = some (.cells cur.toArray t' (0, 0))) (hpos : 0 < n → dp = some ⟨g, off, none⟩) (hfit : off + n * sz ≤ cur.length) (h1 : ∀ u ∈ (Builtin.zeroCells z.cells n).toList, u.oneCell' = true) :
 ∃ w1, (Builtin.clear_ #[t] ty #[.slice dp n c]).run P w = .ok (.tuple #[]) w1 ∧ Copied P w w1 g (Vb cur off (Builtin.zeroCells z.cells n).toList) t' := by
 rcases Nat.eq_zero_or_pos n with h0 | h0
 ·subst h0
  refine ⟨w, ?_, ⟨?_, ⟨rfl, rfl, rfl, Nat.le_refl _, fun _ _ _ => rfl⟩, rfl⟩⟩
  ·cases dp <;> simp [Builtin.clear_, run_underlying ht]
  ·rw [show (Builtin.zeroCells z.cells 0).toList = [] by simp [Builtin.zeroCells], spl_nil]
   exact hg
 ·obtain rfl := hpos h0
  obtain ⟨m, rfl⟩ : ∃ m, n = m + 1 := ⟨n - 1, by omega⟩
  have hst := run_storeCells_at P g off t' (Builtin.zeroCells z.cells (m + 1)).toList 0 cur.toArray w hg (by rw [Array.length_toList, size_zeroCells, hzs]; simpa using hfit) h1
  refine ⟨w.setRow g (Vb cur off (Builtin.zeroCells z.cells (m + 1)).toList).toArray, ?_, ⟨setRow_heap w g cur.toArray _ t' _ hg, ⟨rfl, rfl, rfl, by simp [World.setRow], fun k hk hne => setRow_other w g k _ (fun e => hne (by rw [e]))⟩, by simp [World.setRow]⟩⟩
  simp only [Nat.add_zero, List.toList_toArray, List.append_assoc] at hst
  simp [Builtin.clear_, run_underlying ht, zeroValue, typeInfo, hi, hz, hst, Vb]
end
theorem wpList_clear_run {P : Program} {ops : Array Oper} {rest : List Oper} {o : Oper} {a : Act} {Q : Exit → Act → World → Prop} (w : World) (hgd : o.guard = none) (s : Operand) (t : TypeId) (ho : o.op = .call { callee := .builtin .clear, args := #[s], argTypes := #[t] }) (v : Value) (hs : a.eval s = v)
 {v' : Value} {w' : World} (hr : (Builtin.clear_ #[t] o.type #[v]).run P w = .ok v' w') (h : wpList P ops Q rest (a.put o.dst v') w') : wpList P ops Q (o :: rest) a w := by
 refine wpList_plain hgd fun K hK => ?_
 unfold Oper.wp execOp
 simp only [ho, resolve, invoke, builtin, Sem.run_bind, Sem.run_pure, Result.andThen_ok, List.map_toArray, List.map_cons, List.map_nil, hs, hr]
 exact hK _ _ h
theorem step_append_run {P : Program} {ops : Array Oper} {o : Oper} {a : Act} {w : World} {K : Act → World → Prop} {Q : Exit → Act → World → Prop} {E : Prop}
 (hg : o.guard = none) (d x : Operand) (dT sT : TypeId) (hop : o.op = Op.call { callee := Callee.builtin Builtin.append, args := #[d, x], argTypes := #[dT, sT] })
 (v u : Value) (hd : a.eval d = v) (hx : a.eval x = u) {v' : Value} {w' : World} (hr : (Builtin.append_ #[dT, sT] o.type #[v, u]).run P w = .ok v' w') (hK : K (a.put o.dst v') w') :
 if Region.wanted o (yielded ops a.tmps) = true then Oper.wp P o a w K Q else E := by
 have hw : Region.wanted o (yielded ops a.tmps) = true := by simp [Region.wanted, hg]
 rw [if_pos hw]
 unfold Oper.wp
 simp [execOp, hop, resolve, invoke, builtin, hd, hx, hr, Result.andThen]
 exact hK
theorem zB {w w2 : World} {cs : Array Value} {e : TypeId} (hb : Below (w.alloc (.cells cs e)).heap.size (w.alloc (.cells cs e)) w2) (j : Nat) (v : Value) (h : cs[j]? = some v) : w2.cell? ⟨w.heap.size, j, none⟩ = some v := by
 have h1 := hb.block w.heap.size (by simp)
 rw [heap_alloc_new] at h1
 simp [World.cell?, h1, h]
theorem box_frozen {w w2 : World} {cs : Array Value} {e : TypeId} (hb : Below (w.alloc (.cells cs e)).heap.size (w.alloc (.cells cs e)) w2) (j : Nat) : w2.frozen? ⟨w.heap.size, j, none⟩ = false := by
 have h1 := hb.block w.heap.size (by simp)
 rw [heap_alloc_new] at h1
 simp [World.frozen?, h1]
theorem keeps {W w1 : World} (hb : Below W.heap.size W w1) : (∀ b o, b < W.heap.size → w1.cell? ⟨b, o, none⟩ = W.cell? ⟨b, o, none⟩) ∧ (∀ b o, b < W.heap.size → w1.frozen? ⟨b, o, none⟩ = W.frozen? ⟨b, o, none⟩) :=
 ⟨fun b o h => hb.cell (p := ⟨b, o, none⟩) h, fun b o h => hb.frozen (p := ⟨b, o, none⟩) h⟩
end Go.Proofs.YtalpmbeddldfoaaDoor.Hand
