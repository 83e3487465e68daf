import Derived.Test.YtalpmbeddldfoaaDoorF0
import Derived.Test.YtalpmbeddldfoaaDoorHandB
import Derived.Test.YtalpmbeddldfoaaDoorHandS
namespace Go.Proofs.YtalpmbeddldfoaaDoor.PA
open Go.RowKit Go.Proofs.YtalpmbeddldfoaaDoor.Hand Go.Proofs.YtalpmbeddldfoaaDoorW.PrintWords Go.Proofs.YtalpmbeddldfoaaDoorW.PrintLast Go.Proofs.YtalpmbeddldfoaaDoorW.PrintMore
attribute [local go_sem] vQ vS zc za vH vJ vR vT   -- for this text's walks alone
attribute [local go_sem high] vZ zd zb
set_option linter.unusedVariables false
set_option linter.unusedSimpArgs false
def zt.f(l0 : List (vA))(a1 : Int)(a2 : Int) : Option ((List (vA))):=if 0≤a1 then(if a1≤a2 then(if a2≤(l0.length : Int) then((some (([] : List (vA)) : List (vA))).bind fun y466=>(if 0≤a2 then((some (l0.drop (a2 : Int).toNat : List (vA))).bind fun y469=>(if y466.length + y469.length<3518437208883 then((some (y466 ++ y469 : List (vA))).bind fun y473=>(if a1≤(l0.length : Int) then((some (l0.take (a1 : Int).toNat : List (vA))).bind fun y476=>(if y476.length + y473.length<3518437208883 then(some (y476 ++ y473)) else(none))) else(none))) else(none))) else(none))) else(none)) else(none)) else(none)
set_option maxHeartbeats 8000000 in
set_option maxRecDepth 100000 in
theorem zt.calls(P0_ : Nat→Prop)(u9000_ : Value)(l0 : List (vA))(a1 : Int)(a2 : Int)(r : List (vA))(w0 w : World)(hB : Below w0.heap.size w0 w)(ho0 : Kd.R zq 50 w w0.heap.size P0_ u9000_ l0)(h : zt.f l0 a1 a2=some r) :
 Calls Tryd.prog 144 #[u9000_,.int .i64 a1,.int .i64 a2] w fun e w'=>∃ v0_ : Value,e = .returned (v0_)∧Kd.R zq 50 w' w0.heap.size (fun k_=>(P0_ k_∨w.heap.size≤k_)) v0_ r∧Below w0.heap.size w0 w'∧Kept w w' (fun k_=>P0_ k_):=by
 have hf : 0≤a1∧a1≤a2∧a2≤(l0.length : Int)∧r=l0.take a1.toNat ++ l0.drop a2.toNat:=by
  unfold zt.f at h;simp only [Option.bind_some] at h
  split at h
  ·split at h
   ·split at h
    ·split at h
     ·split at h
      ·split at h
       ·split at h
        ·rename_i q1 q2 q3 q4 q5 q6 q7
         exact⟨q1,q2,q3,by simpa using (Option.some.inj h).symm⟩
        ·cases h
       ·cases h
      ·cases h
     ·cases h
    ·cases h
   ·cases h
  ·cases h
 clear h;obtain⟨f1,f2,f3,rfl⟩:=hf;obtain⟨i,rfl⟩ : ∃ i : Nat,a1=(i : Int):=⟨a1.toNat,by omega⟩;obtain⟨j,rfl⟩ : ∃ j : Nat,a2=(j : Int):=⟨a2.toNat,by omega⟩;simp only [Int.toNat_natCast];obtain⟨n,hn⟩ : ∃ n,l0.length=n:=⟨_,rfl⟩;obtain⟨A,c,rfl⟩:=Kd.vK ho0;have hrd:=Kd.vu ho0;obtain⟨inf,hinf,hzr,hsz,hby⟩:=info_parts info50;rw [hn] at hrd f3 ho0 ⊢;have hmx:=hrd.2.2.2.1;have HO:=qd.mk ho0;have HB:=qd.mk hB;have HN:=qd.mk hn;have HC:=qd.mk hrd.2.1;have p1 : (i : Int)≤(n : Int):=by omega
 have p2 : (i : Int)≤(j : Int):=by omega
 have p3 : (j : Int)≤(n : Int):=by omega
 have p4 : (n : Int)≤(c : Int):=by have:=hrd.2.1;omega
 have p5 : (n : Int)≤9223372036854775807:=by omega
 obtain⟨V1,hV1⟩ : ∃ V1,∀ W : World,(Instr.slice 32 (.slice A n c) (some (.int .i64 (i : Int))) (some (.int .i64 (j : Int))) (some (.int .i64 (n : Int)))).run Tryd.prog W = .ok V1 W:=by
  have hel : (Tryd.prog).elem 32=50:=by simp [Program.elem,Tryd.underlying32]
  have hu : (Tryd.prog).underlying 32=some (.slice ((Tryd.prog).elem 32)):=by rw [hel];exact Tryd.underlying32
  refine⟨sliced A (i : Int).toNat (j : Int).toNat (n : Int).toNat 3,fun W=>?_⟩;rw [run_slice_lhm W _ _ _ _ hu .i64 .i64 .i64 (i : Int) (j : Int) (n : Int) (by omega) (by omega) (by omega) (by omega),hel];simp [sizeOf,typeInfo,hinf,hsz,Result.andThen]
 clear ho0 hB hrd f1 f2 f3;by_cases hij : i=j
 ·subst hij
  clear hn hmx hinf hzr hsz hby;rw [List.take_append_drop];go_enter Tryd.func144,Tryd.ntmps144
  go_wp2
  all_goals
   go_ret
   refine⟨_,rfl,?_,HB.out,Kept.refl _ _⟩;exact Kd.vq HO.out (fun k hk=>.inl hk)
 ·have hij1 : ((i : Int) == (j : Int))=false:=by
   have : ¬ (i : Int)=(j : Int):=by omega
   simpa using this
  have HP:=qd.mk (show i<j from by omega);have HJ:=qd.mk (show j≤n from by omega);obtain⟨hok,inner,hown,hreps⟩:=HO.out;have hlen:=hown.1;rcases hown.2 with ⟨_,h0⟩|⟨g,cap,cur0,hv,hb0,hg,hnc,hcm,hcs,htake⟩
  ·exfalso
   have:=HP.out;have:=HJ.out;omega
  injection hv with ha hnn hc
  subst ha;subst hc;clear hnn;obtain⟨cur,rfl⟩ : ∃ cur : List Value,cur0=cur.toArray:=⟨cur0.toList,by simp⟩;simp only [List.toList_toArray,List.size_toArray] at hcs htake;rw [hn] at hlen hnc htake;have hszK : (zq : Kd _).sz=3:=rfl;rw [hszK] at hlen hcs htake;have hrK:=hreps.imp_ (fun _ _ hp=>(zq : Kd _).K_of_M hp);have hone_i:=reps_cells_one (d:=zq) (by decide) hrK;have hgl : g<w.heap.size:=(Array.getElem?_eq_some_iff.1 hg).1
  have hflat : ∀ (w' : World) (base' : Nat) (ok' : Nat→Prop) (x : vA) (cs : List Value),(zq : Kd _).K w' x cs→∀ (w2 : World),(zq : Kd _).M w2 base' ok' x cs:=by
   intro w' base' ok' x cs hx w2;obtain rfl:=k50_open hx;exact k50_mkM _ _ _ _
  have hdl : (inner.drop (j * 3)).length=(n - j) * 3:=by rw [List.length_drop,hlen,Nat.sub_mul]
  have hone_d : ∀ v ∈ inner.drop (j * 3),v.oneCell'=true:=fun v hv=>hone_i v (List.mem_of_mem_drop hv)
  have hgd : w.drew.heap[g]? = some (.cells cur.toArray 50 (0,0)):=hg;obtain⟨A2,hA2⟩ : ∃ A2,A2=(if c=j then(some ⟨g,0,none⟩ : Option Addr) else(some (⟨g,0,none⟩ : Addr)).map (·.add (j * 3))):=⟨_,rfl⟩;have hij3 : i * 3<j * 3:=by omega
  have hjn3 : j * 3≤n * 3:=by have:=HJ.out;omega
  obtain⟨w2,hrun2,hcp2⟩:=run_append_row (P:=Tryd.prog) w.drew 32 32 50 3 (by decide) inf Tryd.underlying32 hinf hsz g i c (n - j) (c - j) A2 cur 50 hgd (inner.drop (j * 3)) hdl
   (by
    by_cases hcj : c=j
    ·refine⟨_,by rw [hA2,if_pos hcj],fun q v hq=>?_⟩
     have hql:=(List.getElem?_eq_some_iff.1 hq).1
     exfalso
     have:=HJ.out;omega
    ·refine⟨_,by rw [hA2,if_neg hcj,Option.map_some],fun q v hq=>?_⟩
     have hql:=(List.getElem?_eq_some_iff.1 hq).1;rw [Nat.sub_mul] at hdl;rw [add_at,add_at,Nat.zero_add];simp only [World.cell?,hgd];rw [List.getElem?_drop,← htake,List.getElem?_take,if_pos (by omega)] at hq
     simpa using hq) (by omega) (by rw [hdl,Nat.sub_mul];omega) hone_d
  have hspl : (spl cur (i * 3) (inner.drop (j * 3))).length=c * 3:=by rw [spl_length _ _ _ (by rw [hdl,Nat.sub_mul];omega),hcs]
  have hzl : (Builtin.zeroCells (Value.agg #[(.string ⟨#[]⟩),(.string ⟨#[]⟩),(.int .i64 0)]).cells (n - (i + (n - j)))).toList.length=(n - (i + (n - j))) * 3:=by
   rw [Array.length_toList,size_zeroCells]
   rfl
  have hreal : (i + (n - j)) * 3 + (n - (i + (n - j))) * 3=n * 3:=by
   rw [← Nat.add_mul]
   congr 1
   have:=HP.out;have:=HJ.out;omega
  obtain⟨w3,hrun3,hcp3⟩:=run_clear_gen (P:=Tryd.prog) w2 32 50 0 _ 3 (by decide) inf Tryd.underlying32 hinf hzr rfl (some ⟨g,(i + (n - j)) * 3,none⟩) (n - (i + (n - j))) (c - (i + (n - j))) g ((i + (n - j)) * 3) (spl cur (i * 3) (inner.drop (j * 3))) 50 hcp2.row (fun _=>rfl) (by omega)
   (by
    intro u hu;refine reps_cells_one (d:=zq) (w:=w) (by decide) (xs:=List.replicate (n - (i + (n - j))) z50) ?_ u hu;exact Kd.reps_zeros rfl (by decide) (k50_mk w z50) _)
  have hA2':=cut_from (P:=Tryd.prog) 32 50 .i64 Tryd.underlying32 hinf 3 hsz (some ⟨g,0,none⟩) n c (j : Int) (by omega) (by omega);simp only [Int.toNat_natCast] at hA2';rw [← hA2] at hA2';have hcutB:=cut_upto (P:=Tryd.prog) 32 50 .i64 Tryd.underlying32 hinf (some ⟨g,0,none⟩) n c (i : Int) (by omega) (by omega);simp only [Int.toNat_natCast] at hcutB
  have hlow : i + (n - j)<n:=by
   have:=HP.out;have:=HJ.out;omega
  have hcutE : ∀ W : World,(Instr.slice 32 (.slice (some ⟨g,0,none⟩) (i + (n - j)) c) (some (.int .i64 ((i : Int) + ((n - j : Nat) : Int)))) (some (.int .i64 (n : Int))) none).run Tryd.prog W = .ok (.slice (some ⟨g,(i + (n - j)) * 3,none⟩) (n - (i + (n - j))) (c - (i + (n - j)))) W:=by
   intro W;have hel : (Tryd.prog).elem 32=50:=by simp [Program.elem,Tryd.underlying32]
   have hu : (Tryd.prog).underlying 32=some (.slice ((Tryd.prog).elem 32)):=by rw [hel];exact Tryd.underlying32
   rw [run_slice_lh W _ _ _ _ hu .i64 .i64 ((i : Int) + ((n - j : Nat) : Int)) (n : Int) (by omega) (by omega) (by omega),hel,show ((i : Int) + ((n - j : Nat) : Int)).toNat=i + (n - j) by omega];have hne : ¬ c=i + (n - j):=by omega
   simp [sizeOf,typeInfo,hinf,hsz,sliced,Result.andThen,hne,add_at]
  have HFIN:=qd.mk (show Kd.R zq 50 w3 w0.heap.size (fun k_=>(P0_ k_∨w.heap.size≤k_)) (.slice (some ⟨g,0,none⟩) (i + (n - j)) c) (l0.take i ++ l0.drop j) from by
   refine R_of_cells (wr:=w) hflat (fun _ _ h=>h) (reps_app (Kd.reps_take hrK (by omega)) (Kd.reps_drop hrK)) (by simp;omega) (.inl (hok g (by simp [Value.ownBlock]))) hb0 hcp3.row (by omega) hcm (by rw [spl_length _ _ _ (by omega),hspl,hszK]) ?_;rw [hszK];show (List.take ((i + (n - j)) * 3) _ ++ _).take _=_
   rw [List.take_append_of_le_length (by rw [List.length_take,hspl];omega),List.take_take,Nat.min_self];show (List.take (i * 3) cur ++ _).take _=_
   have h9 : (i + (n - j)) * 3=i * 3 + (n - j) * 3:=Nat.add_mul _ _ _;rw [← List.append_assoc,List.take_append_of_le_length (by rw [List.length_append,List.length_take,hdl];omega),List.take_of_length_le (by rw [List.length_append,List.length_take,hdl];omega),← htake,List.take_take,Nat.min_eq_left (by omega)])
  have HW3:=qd.mk (show w.grownBy w3 (some g) from by
   have h2:=hcp2.grown;have h3:=hcp3.grown;exact⟨h3.os.trans h2.os,h3.tape.trans h2.tape,h3.output.trans h2.output,Nat.le_trans h2.size h3.size,fun k hk hne=>(h3.block k (Nat.lt_of_lt_of_le hk h2.size) hne).trans (h2.block k hk hne)⟩)
  have HBG:=qd.mk hb0;have HPG:=qd.mk (hok g (by simp [Value.ownBlock]));have p6 : (i : Int) + ((n - j : Nat) : Int)<(n : Int):=by omega
  clear hn hmx hok hown hreps hlen hnc hcm hcs htake hg hszK hrK hone_i hgl hflat hdl hone_d hgd hij3 hjn3 hcp2 hcp3 hspl hzl hreal hlow hb0 hA2 hzr;go_enter Tryd.func144,Tryd.ntmps144
  go_wp2
  go_region_law (refine step_append_run rfl _ _ 32 32 rfl _ _ (by simp [Act.eval,Act.put]) (by simp [Act.eval,Act.put]) hrun2 ?_)
  go_wp2_with (at_builtin;refine wpList_clear_run _ rfl (.tmp 31) 32 rfl _ rfl hrun3 ?_)
  go_ret
  refine⟨_,rfl,HFIN.out,?_,?_⟩
  ·exact HB.out.grown HW3.out HB.out.size (fun k e=>by cases e;exact HBG.out)
  ·exact Kept.of_grown HW3.out (Kept.refl _ _) (fun k e=>by cases e;exact .inl HPG.out)
end Go.Proofs.YtalpmbeddldfoaaDoor.PA
