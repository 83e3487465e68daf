import Derived.Test.YtalpmbeddldfoaaDoorF0
import Derived.Test.YtalpmbeddldfoaaDoorHandB
import Derived.Test.YtalpmbeddldfoaaDoorHandS
namespace Go.Proofs.YtalpmbeddldfoaaDoor.PA
open Go.RowKit Go.Proofs.YtalpmbeddldfoaaDoor.Hand Go.Proofs.YtalpmbeddldfoaaDoorW.PrintWords Go.Proofs.YtalpmbeddldfoaaDoorW.PrintLast Go.Proofs.YtalpmbeddldfoaaDoorW.PrintMore
attribute [local go_sem] vW vV zc zb vG vF vU vT
attribute [local go_sem high] za zd ze
set_option linter.unusedVariables false
set_option linter.unusedSimpArgs false
def zA.f(l0 : List (vP))(a1 : Int)(l2 : List (vP)) : Option ((List (vP))):=(some (([] : List (vP)) : List (vP))).bind fun y433=>(if 0≤a1 then(if a1≤(l0.length : Int) then((some (l0.drop (a1 : Int).toNat : List (vP))).bind fun y436=>(if y433.length + y436.length<3518437208883 then((some (y433 ++ y436 : List (vP))).bind fun y440=>((some (l0.take (a1 : Int).toNat : List (vP))).bind fun y443=>(if y443.length + l2.length<3518437208883 then((some (y443 ++ l2 : List (vP))).bind fun y446=>(if y446.length + y440.length<3518437208883 then(some (y446 ++ y440)) else(none))) else(none)))) else(none))) else(none)) else(none))
set_option maxHeartbeats 8000000 in
set_option maxRecDepth 100000 in
theorem zA.calls(P0_ : Nat→Prop)(u9000_ : Value)(l0 : List (vP))(a1 : Int)(A2 : Option Addr)(c2 : Nat)(l2 : List (vP))(r : List (vP))(w0 w : World)(hB : Below w0.heap.size w0 w)(ho0 : Kd.R zM 50 w w0.heap.size P0_ u9000_ l0)(hr2 : ∀ W_,Kept w W_ (fun k_=>P0_ k_)→Kd.C zM W_ A2 l2.length l2)(hc2 : l2.length≤c2)(h : zA.f l0 a1 l2=some r) :
 Calls Tryd.prog 143 #[u9000_,.int .i64 a1,.slice A2 l2.length c2] w fun e w'=>∃ v0_ : Value,e = .returned (v0_)∧Kd.R zM 50 w' w0.heap.size (fun k_=>(P0_ k_∨w.heap.size≤k_)) v0_ r∧Below w0.heap.size w0 w'∧Kept w w' (fun k_=>P0_ k_):=by
 have hf : 0≤a1∧a1≤(l0.length : Int)∧l0.length + l2.length<3518437208883∧r=l0.take a1.toNat ++ l2 ++ l0.drop a1.toNat:=by
  unfold zA.f at h;simp only [Option.bind_some] at h
  split at h
  ·split at h
   ·split at h
    ·split at h
     ·split at h
      ·rename_i q1 q2 q3 q4 q5
       simp only [List.length_append,List.length_take,List.length_drop,List.length_nil] at q3 q4 q5;refine⟨q1,q2,by omega,?_⟩
       simpa using (Option.some.inj h).symm
      ·cases h
     ·cases h
    ·cases h
   ·cases h
  ·cases h
 clear h;obtain⟨f1,f2,f3,rfl⟩:=hf;obtain⟨i,rfl⟩ : ∃ i : Nat,a1=(i : Int):=⟨a1.toNat,by omega⟩;simp only [Int.toNat_natCast];obtain⟨n,hn⟩ : ∃ n,l0.length=n:=⟨_,rfl⟩;obtain⟨m,hm⟩ : ∃ m,l2.length=m:=⟨_,rfl⟩;obtain⟨A,c,rfl⟩:=Kd.zn ho0;have hrd:=Kd.vQ ho0;obtain⟨inf,hinf,_,hsz,_⟩:=info_parts info50;rw [hn] at hrd f2 f3 ho0 ⊢;have hcut:=Qn (P:=Tryd.prog) 32 50 .i64 Tryd.underlying32 hinf 3 hsz A n c (i : Int) (by omega) (by omega);rw [hm] at f3 hc2 hr2 ⊢;have HO:=qb.mk ho0;have HB:=qb.mk hB;have HR2:=qb.mk hr2;have HN:=qb.mk hn;have HM:=qb.mk hm;have HI:=qb.mk (show i≤n from by omega);have HL:=qb.mk f3;have HC:=qb.mk hrd.2;have HC2:=qb.mk hc2;clear ho0 hB hr2 hrd f1 f2 f3 hc2;obtain⟨A1,hA1⟩ : ∃ A1,A1=(if c=(i : Int).toNat then A else A.map (·.add ((i : Int).toNat * 3))):=⟨_,rfl⟩;rw [← hA1] at hcut;simp only [Int.toNat_natCast] at hcut;have HA1:=qb.mk hA1;clear hA1;by_cases hm0 : m=0
 ·subst hm0
  have HE:=qb.mk (List.eq_nil_of_length_eq_zero hm);clear hn hm;have p1 : (i : Int)≤(n : Int):=by have:=HI.out;omega
  go_enter Tryd.func143,Tryd.ntmps143
  go_wp2
  go_ret
  exact⟨_,rfl,by rw [HE.out];simpa using Kd.zN HO.out (fun k hk=>.inl hk),HB.out,Kept.refl _ _⟩
 ·have hm1 : ((m : Int) == 0)=false:=by simpa using hm0
  by_cases hin : i=n
  ·subst hin
   have p1 : (i : Int)≤(i : Int):=by omega
   have q63 : ((i : Int)≤9223372036854775807):=by have:=HL.out;omega
   clear hn hm;go_enter Tryd.func143,Tryd.ntmps143
   go_wp2_with ((with_reducible refine Qb (b:=.append) (xs:=#[.tmp 23,.tmp 24]) rfl ?_);at_builtin;refine Kd.jM zM (w0:=w0) w0.heap.size rfl (.tmp 23) (.tmp 24) 32 50 (.agg #[(.string ⟨#[]⟩),(.string ⟨#[]⟩),(.int .i64 0)]) 40 rfl Tryd.underlying32 info50 rfl (by decide) (by omega) (.slice A i c) l0 l2 A2 m c2 (fun k_=>P0_ k_∨w.heap.size≤k_) (fun _=>False) rfl rfl ?aO ?aR (fun _ _ h=>h) (fun _ h=>h.elim) ?aF ?aB ?aS ?aL ?_;(case aO=>exact Kd.zN HO.out (fun k hk=>.inl hk));(case aR=>exact HR2.out _ (Kept.refl _ _));(case aF=>exact fun k hk=>.inr hk);(case aB=>exact HB.out);(case aS=>exact HB.out.size);(case aL=>have:=HL.out;have:=HN.out;omega);intro v1 w1 ho hb hg hat;have HO2:=qb.mk ho;have HB2:=qb.mk hb;have HG2:=qb.mk hg;clear ho hb hg hat)
   go_ret
   refine⟨_,rfl,?_,HB2.out,?_⟩
   ·rw [List.take_of_length_le (by have:=HN.out;omega),List.drop_eq_nil_of_le (by have:=HN.out;omega),List.append_nil]
    exact HO2.out
   ·exact Kept.of_grown HG2.out (Kept.refl _ _) (fun k e=>.inl (HO.out.1 k e))
  ·have hin1 : ((i : Int) == (n : Int))=false:=by
    have : ¬ (i : Int)=(n : Int):=by omega
    simpa using this
   have HP:=qb.mk (show i<n from by have:=HI.out;omega);obtain⟨hok,inner,hown,hreps⟩:=HO.out;have hlen:=hown.1;rcases hown.2 with ⟨_,h0⟩|⟨g,cap,cur0,hv,hb0,hg,hnc,hcm,hcs,htake⟩
   ·exfalso
    have:=HP.out;omega
   injection hv with ha hnn hc
   subst ha;subst hc;clear hnn;obtain⟨cur,rfl⟩ : ∃ cur : List Value,cur0=cur.toArray:=⟨cur0.toList,by simp⟩;simp only [List.toList_toArray,List.size_toArray] at hcs htake;rw [hn] at hlen hnc htake;have hszK : (zM : Kd _).sz=3:=rfl;rw [hszK] at hlen hcs htake;have hC2:=HR2.out w (Kept.refl _ _);obtain⟨ad,hAd,_⟩:=hC2.2.2 (by omega);subst hAd;obtain⟨vc,hvr,hvc⟩:=zG.inner_ hC2;have hvl : vc.length=m * 3:=by rw [hvr.1,hm,hszK]
   have hone_v:=jB (d:=zM) (by decide) hvr;have hrK:=hreps.imp_ (fun _ _ hp=>(zM : Kd _).K_of_M hp);have hone_i:=jB (d:=zM) (by decide) hrK;have hvb : ad.block≠g:=Zs HR2.out (by omega) (by decide) (hok g (by simp [Value.ownBlock]));have hgl : g<w.heap.size:=(Array.getElem?_eq_some_iff.1 hg).1;have hcell0 : w.cell? (ad.add 0) = some (vc[0]'(by omega)) := hvc 0 _ (List.getElem?_eq_getElem (by omega))
   have hadl : ad.block<w.heap.size:=by
    have:=World.block_lt_of_cell? _ _ hcell0
    rwa [jD] at this
   have hflat : ∀ (w' : World) (base' : Nat) (ok' : Nat→Prop) (x : vP) (cs : List Value),(zM : Kd _).K w' x cs→∀ (w2 : World),(zM : Kd _).M w2 base' ok' x cs:=by
    intro w' base' ok' x cs hx w2;obtain rfl:=VJ hx;exact jq _ _ _ _
   have hi8 : i * 3≤n * 3:=by have:=HI.out;omega
   have hdl : (inner.drop (i * 3)).length=n * 3 - i * 3:=by rw [List.length_drop,hlen]
   have hinfs : (Tryd.prog.info? 50).map (·.size)=some 3:=by rw [hinf];simp [hsz]
   have hone_d : ∀ v ∈ inner.drop (i * 3),v.oneCell'=true:=fun v hv=>hone_i v (List.mem_of_mem_drop hv)
   have hin_cell : ∀ (w' : World),w'.heap[g]? = some (.cells cur.toArray 50 (0,0))→∀ j v,(inner.drop (i * 3))[j]? = some v→w'.cell? ((⟨g,i * 3,none⟩ : Addr).add j)=some v:=by
    intro w' hw' j v hj;have hjl:=(List.getElem?_eq_some_iff.1 hj).1;rw [Qg];simp only [World.cell?,hw'];rw [List.getElem?_drop,← htake,List.getElem?_take,if_pos (by omega)] at hj
    simpa using hj
   by_cases hroom : n + m≤c
   ·have hgr1 : decide ((c : Int)<(n : Int) + (m : Int))=false:=decide_eq_false (by omega)
    have hl1 : (n : Int) + (m : Int)≤3518437208883:=by have:=HL.out;omega
    have hgd : w.drew.heap[g]? = some (.cells cur.toArray 50 (0,0)):=hg
    obtain⟨w2,hrun2,hcp2⟩:=ji (P:=Tryd.prog) w.drew 32 32 3 50 3 (by decide) Tryd.underlying32 hinfs (some ⟨g,(i + m) * 3,none⟩) (some ⟨g,i * 3,none⟩) (n + m - (i + m)) (c - (i + m)) (n + m - i) (c - i) g ((i + m) * 3) cur 50 hgd (inner.drop (i * 3))
     (by rw [hdl,show n + m - (i + m)=n - i by omega,show Nat.min (n + m - i) (n - i)=n - i from Nat.min_eq_right (by omega),Nat.sub_mul]) (fun _=>⟨rfl,_,rfl,hin_cell _ hgd⟩) (by omega) hone_d
    have hspl : (Vb cur ((i + m) * 3) (inner.drop (i * 3))).length=c * 3:=by rw [Qa _ _ _ (by omega),hcs]
    have hv2 : w2.heap[ad.block]? = w.heap[ad.block]?:=hcp2.grown.block _ hadl (by simp;exact hvb)
    obtain⟨w3,hrun3,hcp3⟩:=ji (P:=Tryd.prog) w2 32 32 3 50 3 (by decide) Tryd.underlying32 hinfs (some ⟨g,i * 3,none⟩) (some ad) (n + m - i) (c - i) m c2 g (i * 3) (Vb cur ((i + m) * 3) (inner.drop (i * 3))) 50 hcp2.row vc
     (by rw [hvl];congr 1;exact(Nat.min_eq_left (by omega)).symm) (fun _=>⟨rfl,ad,rfl,fun j v hj=>(VE (w:=w) (w1:=w2) (a:=ad.add j) (by rw [jD];exact hv2)).trans (hvc j v hj)⟩) (by omega) hone_v
    have hA1e : A1=some ⟨g,i * 3,none⟩:=by
     rw [HA1.out];simp only [Int.toNat_natCast];rw [if_neg (by omega)];simp [Qg]
    have hcutA : ∀ W : World,(Instr.slice 32 (.slice (some ⟨g,0,none⟩) n c) (some (.int .i64 (i : Int))) none none).run Tryd.prog W = .ok (.slice (some ⟨g,i * 3,none⟩) (n - i) (c - i)) W:=by rw [← hA1e];exact hcut
    have hcutB:=cut_upto (P:=Tryd.prog) 32 50 .i64 Tryd.underlying32 hinf (some ⟨g,0,none⟩) n c ((n : Int) + (m : Int)) (by omega) (by omega);rw [show ((n : Int) + (m : Int)).toNat=n + m by omega] at hcutB;have hcutC:=Qn (P:=Tryd.prog) 32 50 .i64 Tryd.underlying32 hinf 3 hsz (some ⟨g,0,none⟩) (n + m) c (i : Int) (by omega) (by omega);have hcutD:=Qn (P:=Tryd.prog) 32 50 .i64 Tryd.underlying32 hinf 3 hsz (some ⟨g,0,none⟩) (n + m) c ((i : Int) + (m : Int)) (by omega) (by omega);rw [show ((i : Int) + (m : Int)).toNat=i + m by omega,if_neg (by omega)] at hcutD;simp only [Int.toNat_natCast] at hcutC;rw [if_neg (by omega)] at hcutC;simp only [Option.map_some,Qg,Nat.zero_add] at hcutC hcutD;have hcs0 : 0<c:=by omega
    obtain⟨vt,kA,hkA,hsa⟩ : ∃ vt kA,kA≠0∧w.shape? ad.block=some (vt,kA):=by
     rw [show ad.add 0=ad by simp [Addr.add]] at hcell0;simp only [World.cell?] at hcell0
     split at hcell0
     ·rename_i cc el fz hh
      split at hcell0
      ·cases hcell0
      ·refine⟨el,cc.size,?_,by simp [World.shape?,hh]⟩
       have:=(Array.getElem?_eq_some_iff.1 hcell0).1;omega
     ·cases hcell0
    have hsb : w.shape? g=some (50,c * 3):=by simp [World.shape?,hg,hcs]
    have hov : ∀ lb cb,(callFunc 159 #[.slice (some ad) m c2,.slice (some ⟨g,(i + m) * 3,none⟩) lb cb]).run Tryd.prog w = .ok (.value (.bool false)) w:=fun lb cb=>by
     rw [run_callFunc_extern Tryd.func159 (by kernel_rfl) (by kernel_rfl) (by kernel_rfl) (e:=Extern.SlicesOverlaps.overlaps #[32,32] #[4]) (by kernel_rfl),
      Ve w 32 4 50 Tryd.underlying32 3 (fun w'=>by simp [sizeOf,typeInfo,hinf,hsz]) ad ⟨g,(i + m) * 3,none⟩ m c2 lb cb hvb vt 50 kA (c * 3) hsa hsb hkA (by omega) (by simp [World.frozen?,hg]) (by simp [World.frozen?,hg])]
     rfl
    have HFIN:=qb.mk (show Kd.R zM 50 w3 w0.heap.size (fun k_=>(P0_ k_∨w.heap.size≤k_)) (.slice (some ⟨g,0,none⟩) (n + m) c) (l0.take i ++ l2 ++ l0.drop i) from by
     refine Qc (wr:=w) hflat (fun _ _ h=>h) (QT (QT (Kd.QX hrK (by omega)) hvr) (Kd.ZF hrK)) (by simp;omega) (.inl (hok g (by simp [Value.ownBlock]))) hb0 hcp3.row hroom hcm (by rw [Qa _ _ _ (by omega),hspl,hszK]) ?_;have:=spl_shift cur inner vc (i * 3) (n * 3) hi8 (by omega) htake;rw [hvl] at this;rw [show (zM : Kd _).sz=3 from rfl,show (n + m) * 3=n * 3 + m * 3 by omega,show (i + m) * 3=i * 3 + m * 3 by omega,this,List.append_assoc])
    have HW3:=qb.mk (show w.grownBy w3 (some g) from by
     have h2:=hcp2.grown;have h3:=hcp3.grown;exact⟨h3.os.trans h2.os,h3.tape.trans h2.tape,h3.output.trans h2.output,Nat.le_trans h2.size h3.size,fun k hk hne=>(h3.block k (Nat.lt_of_lt_of_le hk h2.size) hne).trans (h2.block k hk hne)⟩)
    have HBG:=qb.mk hb0;have HPG:=qb.mk (hok g (by simp [Value.ownBlock]));have p1 : (i : Int)≤(n : Int):=by omega
    clear hn hm hok hown hreps hlen hnc hcm hcs htake hg hszK hC2 hvr hvc hvl hone_v hrK hone_i hflat hdl hone_d hin_cell hroom hcp2 hspl hcp3 hA1e hcut HA1 hvb hgl hcell0 hadl hi8 hb0 hcs0 hsa hkA hsb hv2 hgd;go_enter Tryd.func143,Tryd.ntmps143
    go_wp2_with (simp only [hov])
    have hw2 : IntKind.i64.wrap ((i : Int) + (m : Int))=(i : Int) + (m : Int):=by rw [IntKind.wrap_i64];omega
    go_region_law (refine step_copy_runI rfl _ _ 32 32 rfl _ _ (by simp [Act.eval,Act.put]) (by simp [Act.eval,Act.put]) hrun2 ?_)
    clear hw2;go_wp2_with (at_builtin;refine wpList_copy_runI _ rfl (.tmp 80) (.tmp 81) 32 32 rfl _ _ rfl rfl hrun3 ?_)
    go_ret
    refine⟨_,rfl,HFIN.out,?_,?_⟩
    ·exact HB.out.grown HW3.out HB.out.size (fun k e=>by cases e;exact HBG.out)
    ·exact Kept.of_grown HW3.out (Kept.refl _ _) (fun k e=>by cases e;exact .inl HPG.out)
   ·have hgr1 : decide ((c : Int)<(n : Int) + (m : Int))=true:=decide_eq_true (by omega)
    have hzr : inf.zero=some (.agg #[(.string ⟨#[]⟩),(.string ⟨#[]⟩),(.int .i64 0)]):=by assumption
    have hby : inf.bytes=40:=by assumption
    have hbytes : (i + (n + m - i)) * 40≤140737488355328:=by have:=HL.out;omega
    have hxs : (inner.take (i * 3)).length=i * 3:=by rw [List.length_take];omega
    obtain⟨c',rst,w1,hrun,hc'1,hc'2,hc'3,hrow,hbel,hws⟩:=Zh (P:=Tryd.prog) w 32 3 32 50 inf _ 3 40 Tryd.underlying32 Tryd.underlying3 hinf hzr hsz hby rfl (by decide) (by decide) (some ⟨g,0,none⟩) i c (inner.take (i * 3)) hxs
     (fun _=>⟨_,rfl,fun j u hu=>by
      have hjl:=(List.getElem?_eq_some_iff.1 hu).1;rw [Qg,Nat.zero_add];simp only [World.cell?,hg];rw [List.getElem?_take,if_pos (by omega),← htake,List.getElem?_take,if_pos (by omega)] at hu
      simpa using hu⟩) .i64 (n + m - i) (by omega) (by omega) hbytes
    rw [show i + (n + m - i)=n + m by omega] at hrun hc'1;rw [show ((n + m - i : Nat) : Int)=(n : Int) + (m : Int) - (i : Int) by omega] at hrun;have hg1 : w1.heap[g]? = some (.cells cur.toArray 50 (0,0)):=(hbel.block g hgl).trans hg;have hv1 : w1.heap[ad.block]? = w.heap[ad.block]?:=hbel.block _ hadl;have hcur' : (inner.take (i * 3) ++ rst).length=c' * 3:=hc'3
    obtain⟨w2,hrun2,hcp2⟩:=ji (P:=Tryd.prog) w1 32 32 3 50 3 (by decide) Tryd.underlying32 hinfs (some ⟨w.heap.size,i * 3,none⟩) (some ad) (n + m - i) (c' - i) m c2 w.heap.size (i * 3) (inner.take (i * 3) ++ rst) 50 hrow vc
     (by rw [hvl];congr 1;exact(Nat.min_eq_left (by omega)).symm) (fun _=>⟨rfl,ad,rfl,fun j v hj=>(VE (w:=w) (w1:=w1) (a:=ad.add j) (by rw [jD];exact hv1)).trans (hvc j v hj)⟩) (by omega) hone_v
    have hg2 : w2.heap[g]? = some (.cells cur.toArray 50 (0,0)):=(hcp2.grown.block g (by omega) (by simp;omega)).trans hg1;have hspl : (Vb (inner.take (i * 3) ++ rst) (i * 3) vc).length=c' * 3:=by rw [Qa _ _ _ (by omega),hcur']
    obtain⟨w3,hrun3,hcp3⟩:=ji (P:=Tryd.prog) w2.drew 32 32 3 50 3 (by decide) Tryd.underlying32 hinfs (some ⟨w.heap.size,(i + m) * 3,none⟩) (some ⟨g,i * 3,none⟩) (n + m - (i + m)) (c' - (i + m)) (n - i) (c - i) w.heap.size ((i + m) * 3) (Vb (inner.take (i * 3) ++ rst) (i * 3) vc) 50 hcp2.row (inner.drop (i * 3))
     (by rw [hdl,show n + m - (i + m)=n - i by omega];simp [Nat.sub_mul]) (fun _=>⟨rfl,_,rfl,hin_cell _ hg2⟩) (by omega) hone_d
    have hA1e : A1=some ⟨g,i * 3,none⟩:=by
     rw [HA1.out];simp only [Int.toNat_natCast];rw [if_neg (by omega)];simp [Qg]
    have hcutA : ∀ W : World,(Instr.slice 32 (.slice (some ⟨g,0,none⟩) n c) (some (.int .i64 (i : Int))) none none).run Tryd.prog W = .ok (.slice (some ⟨g,i * 3,none⟩) (n - i) (c - i)) W:=by rw [← hA1e];exact hcut
    have hcutB:=cut_upto (P:=Tryd.prog) 32 50 .i64 Tryd.underlying32 hinf (some ⟨g,0,none⟩) n c (i : Int) (by omega) (by omega);have hcutC:=Qn (P:=Tryd.prog) 32 50 .i64 Tryd.underlying32 hinf 3 hsz (some ⟨w.heap.size,0,none⟩) (n + m) c' (i : Int) (by omega) (by omega);have hcutD:=Qn (P:=Tryd.prog) 32 50 .i64 Tryd.underlying32 hinf 3 hsz (some ⟨w.heap.size,0,none⟩) (n + m) c' ((i : Int) + (m : Int)) (by omega) (by omega);rw [show ((i : Int) + (m : Int)).toNat=i + m by omega,if_neg (by omega)] at hcutD;simp only [Int.toNat_natCast] at hcutB hcutC;rw [if_neg (by omega)] at hcutC;simp only [Option.map_some,Qg,Nat.zero_add] at hcutC hcutD;have HCP2:=qb.mk hcp2;have HCP3:=qb.mk hcp3;have HBE:=qb.mk hbel
    have HFIN:=qb.mk (show Kd.R zM 50 w3 w0.heap.size (fun k_=>(P0_ k_∨w.heap.size≤k_)) (.slice (some ⟨w.heap.size,0,none⟩) (n + m) c') (l0.take i ++ l2 ++ l0.drop i) from by
     refine Qc (wr:=w) hflat (fun _ _ h=>h) (QT (QT (Kd.QX hrK (by omega)) hvr) (Kd.ZF hrK)) (by simp;omega) (.inr (Nat.le_refl _)) HB.out.size hcp3.row hc'1 hc'2 (by rw [Qa _ _ _ (by omega),hspl,hszK]) ?_;have:=spl_fill (inner.take (i * 3)) rst vc (inner.drop (i * 3)) (i * 3) (n * 3) hxs.symm (by omega) hi8 (by omega);rw [hvl] at this;rw [show (zM : Kd _).sz=3 from rfl,show (n + m) * 3=n * 3 + m * 3 by omega,show (i + m) * 3=i * 3 + m * 3 by omega,this,List.append_assoc])
    have HW3:=qb.mk (show Below w.heap.size w w3 from by
     have h2:=hbel.grown hcp2.grown (by omega) (fun k e=>by cases e;exact Nat.le_refl _);exact(qc h2).grown hcp3.grown (by have:=hcp2.size;simp;omega) (fun k e=>by cases e;exact Nat.le_refl _))
    have hl1 : (n : Int) + (m : Int)≤3518437208883:=by have:=HL.out;omega
    have p1 : (i : Int)≤(n : Int):=by omega
    clear hn hm hok hown hreps hlen hnc hcm hcs htake hg hszK hC2 hvr hvc hvl hone_v hrK hone_i hflat hdl hone_d hin_cell hroom hzr hby hxs hc'1 hc'2 hc'3 hrow hbel hws hg1 hv1 hcur' hcp2 hg2 hspl hcp3 hA1e hcut HA1 hvb hgl hcell0 hadl hi8 hbytes hb0;go_enter Tryd.func143,Tryd.ntmps143
    go_wp2_with (first|(at_builtin;refine QL _ rfl (.tmp 34) (.tmp 39) 32 3 rfl _ _ rfl rfl hrun ?_)|(at_builtin;refine wpList_copy_runI _ rfl (.tmp 43) (.tmp 44) 32 32 rfl _ _ rfl rfl hrun2 ?_))
    have hw2 : IntKind.i64.wrap ((i : Int) + (m : Int))=(i : Int) + (m : Int):=by rw [IntKind.wrap_i64];omega
    go_region_law (refine step_copy_runI rfl _ _ 32 32 rfl _ _ (by simp [Act.eval,Act.put]) (by simp [Act.eval,Act.put]) hrun3 ?_)
    go_wp2
    go_ret
    refine⟨_,rfl,HFIN.out,HB.out.trans (HW3.out.mono HB.out.size),?_⟩;exact Kept.of_below HW3.out _
end Go.Proofs.YtalpmbeddldfoaaDoor.PA
