import Derived.Test.YtalpmbeddldfoaaDoorF0
import Derived.Test.YtalpmbeddldfoaaDoorFApiPair87
import Derived.Test.YtalpmbeddldfoaaDoorFKvtwoCheck
import Derived.Test.YtalpmbeddldfoaaDoorHandS
namespace Go.Proofs.YtalpmbeddldfoaaDoor.PA
open Go.RowKit Go.Proofs.YtalpmbeddldfoaaDoor.Hand Go.Proofs.YtalpmbeddldfoaaDoorW.PrintWords Go.Proofs.YtalpmbeddldfoaaDoorW.PrintLast Go.Proofs.YtalpmbeddldfoaaDoorW.PrintMore
attribute [local go_sem] vW vV zc zb vG vF vU vT
attribute [local go_sem high] za zd ze
set_option linter.unusedVariables false
set_option linter.unusedSimpArgs false
theorem make_ex {P : Program} (W : World) (t e : TypeId) (i : TypeInfo) (z : Value) (ht : P.underlying t=some (.slice e)) (hi : P.info? e=some i) (hz : i.zero=some z) (n sz : Nat) (hsz : i.size=sz) (hb : i.bytes * n≤281474976710656) (hn : n≤9223372036854775807) :
 ∃ (W1 : World) (cur : List Value),(Instr.makeSlice t (.int .i64 (n : Int)) (.int .i64 (n : Int))).run P W = .ok (.slice (some ⟨W.heap.size,0,none⟩) n n) W1∧Below W.heap.size W W1∧W1.heap[W.heap.size]? = some (.cells cur.toArray e (0,0))∧cur.length=n * sz∧W1.heap.size=W.heap.size + 1:=by
 have hr:=run_make (P:=P) W t e i z ht hi hz .i64 .i64 (n : Int) (n : Int) (by omega) (by omega)
  (by have h3 : ((i.bytes * n : Nat) : Int)≤281474976710656:=by omega
      rwa [Int.natCast_mul] at h3) (by omega)
 simp only [Int.toNat_natCast] at hr;refine⟨_,(madeCells z.cells (n * i.size)).toList,hr,(Below.refl _ _).alloc (Nat.le_refl _) _,?_,?_,by simp⟩
 ·rw [heap_alloc_new]
 ·rw [hsz];exact(by simp [size_madeCells])
theorem copy_ex {P : Program} {α : Type} {d : Kd α} (W : World) (t e ty : TypeId) (hu : P.underlying t=some (.slice e)) (hs : (P.info? e).map (·.size)=some d.sz) (hs0 : 0<d.sz) (g : Nat) (cur : List Value) (A : Option Addr) (c : Nat) (xs : List α)
 (hC : d.C W A xs.length xs) (hg : W.heap[g]? = some (.cells cur.toArray e (0,0))) (hcur : cur.length=xs.length * d.sz) :
 ∃ (w2 : World) (vc : List Value),(Builtin.copy_ #[t,t] ty #[.slice (some ⟨g,0,none⟩) xs.length xs.length,.slice A xs.length c]).run P W = .ok (goInt xs.length) w2∧zj (d.K W) d.sz xs vc∧w2.heap[g]? = some (.cells vc.toArray e (0,0))∧vc.length=xs.length * d.sz∧W.grownBy w2 (some g)∧w2.heap.size=W.heap.size:=by
 obtain⟨vc,hvr,hvc⟩ : ∃ vc,zj (d.K W) d.sz xs vc∧(0<vc.length→∃ ad,A=some ad ∧ ∀ j v,vc[j]? = some v→W.cell? (ad.add j)=some v):=by
  rcases Nat.eq_zero_or_pos xs.length with h0|h0
  ·obtain rfl:=List.eq_nil_of_length_eq_zero h0
   exact⟨[],⟨by simp,fun i p h=>by simp at h⟩,fun h=>by simp at h⟩
  ·obtain⟨ad,hA,_⟩:=hC.2.2 h0
   subst hA;obtain⟨vc,h1,h2⟩:=zG.inner_ hC;exact⟨vc,h1,fun _=>⟨ad,rfl,h2⟩⟩
 have hvl : vc.length=xs.length * d.sz:=hvr.1;have hone:=jB hs0 hvr
 obtain⟨w2,hr,hcp⟩:=ji (P:=P) W t t ty e d.sz hs0 hu hs (some ⟨g,0,none⟩) A xs.length xs.length xs.length c g 0 cur e hg vc (by rw [hvl];simp)
  (fun h=>⟨rfl,hvc h⟩) (by omega) hone
 refine⟨w2,vc,by rw [show Nat.min xs.length xs.length=xs.length from Nat.min_self _] at hr;exact hr,hvr,?_,hvl,hcp.grown,hcp.size⟩;have:=hcp.row;unfold Vb at this;rw [List.drop_eq_nil_of_le (by omega)] at this
 simpa using this
def zf.f(a0_0 : Int)(l0_1 : List (vP))(l0_2 : List (zo)) : Option (Int × (List (vP)) × (List (zo))):=(zH.f l0_1).bind fun t215=>((zR.f l0_2).bind fun t218=>(some (a0_0,t215,t218)))
set_option maxHeartbeats 8000000 in
set_option maxRecDepth 100000 in
theorem zf.calls(a0_0 : Int)(Ac : Option Addr)(Ad : Nat)(l0_1 : List (vP))(Aa : Option Addr)(Ab : Nat)(l0_2 : List (zo))(r1 : Int)(r2 : List (vP))(r3 : List (zo))(w : World)(hr0_1 : Kd.C zM w Ac l0_1.length l0_1)(hc0_1 : l0_1.length≤Ad)(hr0_2 : Kd.C jW w Aa l0_2.length l0_2)(hc0_2 : l0_2.length≤Ab)(h : zf.f a0_0 l0_1 l0_2=some (r1,r2,r3)) :
 Calls Tryd.prog 41 #[.agg #[.int .i64 a0_0,.slice Ac l0_1.length Ad,.slice Aa l0_2.length Ab]] w fun e w'=>∃ v1_ v2_ : Value,e = .returned (.agg #[.int .i64 r1,v1_,v2_])∧Kd.R zM 50 w' w.heap.size (fun _=>True) v1_ r2∧Kd.R jW 74 w' w.heap.size (fun _=>True) v2_ r3∧Below w.heap.size w w':=by
 unfold zf.f zH.f zR.f at h;simp only [Option.bind_some,List.length_nil,Nat.zero_add,List.nil_append] at h
 obtain⟨n1,n2,e1,e2,e3⟩ : l0_1.length<3518437208883∧l0_2.length<1954687338268∧a0_0=r1∧l0_1=r2∧l0_2=r3:=by
  by_cases c1 : l0_1.length<3518437208883
  ·rw [if_pos c1] at h
   by_cases c2 : l0_2.length<1954687338268
   ·rw [if_pos c2] at h
    simp at h
    exact⟨c1,c2,h.1,h.2.1,h.2.2⟩
   ·rw [if_neg c2] at h
    simp at h
  ·rw [if_neg c1] at h
   simp at h
 subst e1 e2 e3;clear h;have HR1:=qb.mk hr0_1;have HC1:=qb.mk hc0_1;have HR2:=qb.mk hr0_2;have HC2:=qb.mk hc0_2;clear hr0_1 hc0_1 hr0_2 hc0_2;obtain⟨i1,hi1,hz1,hs1,hb1⟩:=info_parts info50;obtain⟨i2,hi2,hz2,hs2,hb2⟩:=info_parts info74;obtain⟨W1,cur1,hr1,hB1,hrow1,hl1,hsz1⟩:=make_ex (P:=Tryd.prog) ((w.alloc (.cells #[.int .i64 a0_0,.slice Ac l0_1.length Ad,.slice Aa l0_2.length Ab] 35)).alloc (.cells #[.int .i64 0,.slice none 0 0,.slice none 0 0] 35)) 32 50 i1 _ Tryd.underlying32 hi1 hz1 l0_1.length _ hs1 (by rw [hb1];omega) (by omega);have BA1:=qb.mk (qJ (qo (blk_new w (.cells #[.int .i64 a0_0,.slice Ac l0_1.length Ad,.slice Aa l0_2.length Ab] 35)) _) hB1);have BR1:=qb.mk (qJ (blk_new (w.alloc (.cells #[.int .i64 a0_0,.slice Ac l0_1.length Ad,.slice Aa l0_2.length Ab] 35)) _) hB1);have HB1:=qb.mk (((Below.refl w.heap.size w).alloc (Nat.le_refl _) _).alloc (by simp) _ |>.trans (hB1.mono (by first|(simp;done)|(simp;omega))));simp only [World.size_alloc] at hr1 hrow1 hsz1 BR1;obtain⟨W2,v1,hr2,hv1,hrow2,hl2,hg2,hsz2⟩:=copy_ex (P:=Tryd.prog) (d:=zM) W1 32 50 3 Tryd.underlying32 (by rw [hi1];simp [hs1];rfl) (by decide) _ cur1 Ac Ad l0_1 (Kd.vk HR1.out HB1.out) hrow1 hl1;have BA2:=qb.mk (zZ BA1.out hg2 (by first|(simp;done)|(simp;omega)));have BR2:=qb.mk (zZ BR1.out hg2 (by first|(simp;done)|(simp;omega)));have HB2:=qb.mk (HB1.out.grown hg2 HB1.out.size (fun k e=>by cases e;omega));obtain⟨W3,cur2,hr3,hB3,hrow3,hl3,hsz3⟩:=make_ex (P:=Tryd.prog) W2 33 74 i2 _ Tryd.underlying33 hi2 hz2 l0_2.length _ hs2 (by rw [hb2];omega) (by omega);have BA3:=qb.mk (qJ BA2.out hB3);have BR3:=qb.mk (qJ BR2.out hB3);have BV3:=qb.mk (qJ hrow2 hB3);have HB3:=qb.mk (qB HB2.out hB3);obtain⟨W4,v2,hr4,hv2,hrow4,hl4,hg4,hsz4⟩:=copy_ex (P:=Tryd.prog) (d:=jW) W3 33 74 3 Tryd.underlying33 (by rw [hi2];simp [hs2];rfl) (by decide) _ cur2 Aa Ab l0_2 (Kd.vk HR2.out HB3.out) hrow3 hl3;have BA4:=qb.mk (zZ BA3.out hg4 (by first|(simp;done)|(simp;omega)));have BR4:=qb.mk (zZ BR3.out hg4 (by first|(simp;done)|(simp;omega)));have BV4:=qb.mk (zZ BV3.out hg4 (by first|(simp;done)|(simp;omega)));have HB4:=qb.mk (HB3.out.grown hg4 HB3.out.size (fun k e=>by cases e;omega));rw [hsz2,hsz1] at hr3 hr4 hrow4;have a11 : W1.cell? ⟨w.heap.size,1,none⟩=some (.slice Ac l0_1.length Ad):=(qe BA1.out 1).trans rfl;have a22 : W2.cell? ⟨w.heap.size,2,none⟩=some (.slice Aa l0_2.length Ab):=(qe BA2.out 2).trans rfl;have a32 : W3.cell? ⟨w.heap.size,2,none⟩=some (.slice Aa l0_2.length Ab):=(qe BA3.out 2).trans rfl;have a40 : W4.cell? ⟨w.heap.size,0,none⟩=some (.int .i64 a0_0):=(qe BA4.out 0).trans rfl;have b40 : W4.cell? ⟨w.heap.size + 1,0,none⟩=some (.int .i64 0):=(qe (by simpa using BR4.out) 0).trans rfl;have b41 : W4.cell? ⟨w.heap.size + 1,1,none⟩=some (.slice none 0 0):=(qe (by simpa using BR4.out) 1).trans rfl;have b42 : W4.cell? ⟨w.heap.size + 1,2,none⟩=some (.slice none 0 0):=(qe (by simpa using BR4.out) 2).trans rfl;have f40 : W4.frozen? ⟨w.heap.size + 1,0,none⟩=false:=qg (by simpa using BR4.out) 0;have f41 : W4.frozen? ⟨w.heap.size + 1,1,none⟩=false:=qg (by simpa using BR4.out) 1;have f42 : W4.frozen? ⟨w.heap.size + 1,2,none⟩=false:=qg (by simpa using BR4.out) 2;have HV1:=qb.mk hv1;have HV2:=qb.mk hv2;have HR4:=qb.mk hrow4;clear hv1 hv2 hg2 hg4 hrow1 hrow2 hrow3 hB1 hB3 hi1 hz1 hs1 hb1 hi2 hz2 hs2 hb2 hrow4;go_enter Tryd.func41,Tryd.ntmps41
 go_wp2
 refine bodyPost_ret (results_cell_row rfl _ _ (w.heap.size + 1) 35 #[.int .i64 a0_0,.slice (some ⟨w.heap.size + 1 + 1,0,none⟩) l0_1.length l0_1.length,.slice (some ⟨w.heap.size + 1 + 1 + 1,0,none⟩) l0_2.length l0_2.length] (0,0) _ rfl (by
  refine vC (cs:=#[.int .i64 a0_0,.slice (some ⟨w.heap.size + 1 + 1,0,none⟩) l0_1.length l0_1.length,.slice none 0 0]) ?_ 2 _ rfl;refine vC (cs:=#[.int .i64 a0_0,.slice none 0 0,.slice none 0 0]) ?_ 1 _ rfl;refine vC (cs:=#[.int .i64 0,.slice none 0 0,.slice none 0 0]) ?_ 0 _ rfl
  simpa using BR4.out) Tryd.underlying35 rfl rfl) rfl ?_
 have hflat1 : ∀ (w' : World) (base' : Nat) (ok' : Nat→Prop) (x : vP) (cs : List Value),(zM : Kd _).K w' x cs→∀ (w2 : World),(zM : Kd _).M w2 base' ok' x cs:=by
  intro w' base' ok' x cs hx w2;obtain rfl:=VJ hx;exact jq _ _ _ _
 have hflat2 : ∀ (w' : World) (base' : Nat) (ok' : Nat→Prop) (x : zo) (cs : List Value),(jW : Kd _).K w' x cs→∀ (w2 : World),(jW : Kd _).M w2 base' ok' x cs:=by
  intro w' base' ok' x cs hx w2;obtain rfl:=k74_open hx;exact k74_mkM _ _ _ _
 refine⟨_,_,rfl,?_,?_,?_⟩
 ·refine Qc (cur:=v1) hflat1 (fun _ _ h=>h) HV1.out rfl trivial (by omega) ?_ (Nat.le_refl _) HR1.out.2.1 hl2 (List.take_of_length_le (by omega))
  refine zT ?_ (by first|(simp;done)|(simp;omega)) _;refine zT ?_ (by first|(simp;done)|(simp;omega)) _;refine zT ?_ (by first|(simp;done)|(simp;omega)) _;rw [← hsz1] at *;exact BV4.out
 ·refine Qc (cur:=v2) hflat2 (fun _ _ h=>h) HV2.out rfl trivial (by omega) ?_ (Nat.le_refl _) HR2.out.2.1 hl4 (List.take_of_length_le (by omega))
  refine zT ?_ (by first|(simp;done)|(simp;omega)) _;refine zT ?_ (by first|(simp;done)|(simp;omega)) _;refine zT ?_ (by first|(simp;done)|(simp;omega)) _;exact HR4.out
 ·exact qh (qh (qh HB4.out (by omega)) (by omega)) (by omega)
end Go.Proofs.YtalpmbeddldfoaaDoor.PA
