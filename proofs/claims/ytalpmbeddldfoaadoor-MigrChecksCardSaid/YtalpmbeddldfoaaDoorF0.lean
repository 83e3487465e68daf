import Derived.Test.YtalpmbeddldfoaaDoorProg
import Derived.Below
import Derived.Deep.Draws
import Derived.Deep.AppendLies
import Derived.Maps.AppendAt
import Derived.OwnWalk
import Derived.Laws.BytesArg
import Derived.Laws.MakeOwn
import Derived.Laws.OwnMore
import Derived.Deep.OwnRows
import Derived.Tactics
import Derived.Lib.ConvBytes
import Derived.Laws.Slices
import Derived.WalkKit
import Derived.KernelRfl
import Derived.RowKit3
import Derived.Deep.LoopGhost
import Derived.Deep.QuietTactic
import Derived.BigQuiet
import Derived.WideLaws
import Derived.Deep.DeepCutAuto
import Derived.Deep.CutBlock
import Derived.Deep.RegionHeld3
import Derived.Laws.Rows
import Derived.Lib.AppendStr
import Derived.ArgAppend
import Derived.Laws.IdiomCopy
import Derived.OrdersHeld
import Derived.Laws.BitsLemmas
import Derived.RowKit
import Derived.Test.YtalpmbeddldfoaaDoorVAll
import Derived.Test.YtalpmbeddldfoaaDoorHandU8
namespace Go.Proofs.YtalpmbeddldfoaaDoor.PA
open Go.RowKit Go.Proofs.YtalpmbeddldfoaaDoor.Hand Go.Proofs.YtalpmbeddldfoaaDoorW.PrintWords Go.Proofs.YtalpmbeddldfoaaDoorW.PrintLast Go.Proofs.YtalpmbeddldfoaaDoorW.PrintMore
attribute [local go_sem] vW vV zc zb vG vF vU vT
attribute [local go_sem high] za zd ze
set_option linter.unusedVariables false
set_option linter.unusedSimpArgs false
def errW : Option Int→Value
 | none=>.nilIface
 | some c=>.iface 0 (.int .i64 c)
theorem qK : errW none = .nilIface:=rfl
theorem qL(c : Int) : errW (some c) = .iface 0 (.int .i64 c):=rfl
theorem info5 : (Tryd.prog.info? 5).map (fun i=>(i.zero,i.size,i.bytes))=some (some (.int .u8 0),1,1):=by kernel_rfl
theorem info50 : (Tryd.prog.info? 50).map (fun i=>(i.zero,i.size,i.bytes))=some (some (.agg #[(.string ⟨#[]⟩),(.string ⟨#[]⟩),(.int .i64 0)]),3,40):=by kernel_rfl
theorem info74 : (Tryd.prog.info? 74).map (fun i=>(i.zero,i.size,i.bytes))=some (some (.agg #[(.int .i64 0),(.int .i64 0),(.int .i64 0),(.int .i64 0),(.int .i64 0),(.bool false),(.string ⟨#[]⟩),(.int .i64 0)]),8,72):=by kernel_rfl
structure S72 where
 f0 : Int
 f1 : Int
 f2 : Int
 f3 : Bool
 f4 : ByteArray
 f5 : Int
def z72 : S72:=⟨(0 : Int),(0 : Int),(0 : Int),false,(⟨#[]⟩ : ByteArray),(0 : Int)⟩
def k72 : Kd S72:=Kd.iso (Kd.pair (Kd.int .i64) (Kd.pair (Kd.int .i64) (Kd.pair (Kd.int .i64) (Kd.pair Kd.bool (Kd.pair Kd.string (Kd.int .i64)))))) (fun x : S72=>(x.f0,x.f1,x.f2,x.f3,x.f4,x.f5))
theorem k72_open {w : World} {x : S72} {cs : List Value} (h : k72.K w x cs) : cs = [.int .i64 x.f0,.int .i64 x.f1,.int .i64 x.f2,.bool x.f3,.string x.f4,.int .i64 x.f5]:=by
 obtain⟨_,_,rfl,rfl,⟨_,_,rfl,rfl,⟨_,_,rfl,rfl,⟨_,_,rfl,rfl,⟨_,_,rfl,rfl,rfl⟩⟩⟩⟩⟩:=h;exact rfl
theorem k72_openM {w : World} {base : Nat} {ok : Nat→Prop} {x : S72} {cs : List Value} (h : k72.M w base ok x cs) : cs = [.int .i64 x.f0,.int .i64 x.f1,.int .i64 x.f2,.bool x.f3,.string x.f4,.int .i64 x.f5]:=by
 obtain⟨_,_,rfl,rfl,⟨_,_,rfl,rfl,⟨_,_,rfl,rfl,⟨_,_,rfl,rfl,⟨_,_,rfl,rfl,rfl⟩⟩⟩⟩⟩:=h;exact rfl
theorem k72_mk(w : World)(x : S72)  : k72.K w x [.int .i64 x.f0,.int .i64 x.f1,.int .i64 x.f2,.bool x.f3,.string x.f4,.int .i64 x.f5]:=⟨[.int .i64 x.f0],[.int .i64 x.f1,.int .i64 x.f2,.bool x.f3,.string x.f4,.int .i64 x.f5],rfl,rfl,⟨[.int .i64 x.f1],[.int .i64 x.f2,.bool x.f3,.string x.f4,.int .i64 x.f5],rfl,rfl,⟨[.int .i64 x.f2],[.bool x.f3,.string x.f4,.int .i64 x.f5],rfl,rfl,⟨[.bool x.f3],[.string x.f4,.int .i64 x.f5],rfl,rfl,⟨[.string x.f4],[.int .i64 x.f5],rfl,rfl,rfl⟩⟩⟩⟩⟩
theorem k72_mkM(w : World)(base : Nat)(ok : Nat→Prop)(x : S72)  : k72.M w base ok x [.int .i64 x.f0,.int .i64 x.f1,.int .i64 x.f2,.bool x.f3,.string x.f4,.int .i64 x.f5]:=⟨[.int .i64 x.f0],[.int .i64 x.f1,.int .i64 x.f2,.bool x.f3,.string x.f4,.int .i64 x.f5],rfl,rfl,⟨[.int .i64 x.f1],[.int .i64 x.f2,.bool x.f3,.string x.f4,.int .i64 x.f5],rfl,rfl,⟨[.int .i64 x.f2],[.bool x.f3,.string x.f4,.int .i64 x.f5],rfl,rfl,⟨[.bool x.f3],[.string x.f4,.int .i64 x.f5],rfl,rfl,⟨[.string x.f4],[.int .i64 x.f5],rfl,rfl,rfl⟩⟩⟩⟩⟩
def Vg(xs : List S72)(i : Int) : S72:=xs.getD i.toNat z72
theorem at_T72 {w : World} {A : Option Addr} {n : Nat} {xs : List S72} (h : Kd.C k72 w A n xs) (i : Int) (h0 : 0≤i) (h1 : i<n) : ∃ ad,A=some ad∧w.cell? (ad.add (i.toNat * 6))=some (.int .i64 (Vg xs i).f0)∧w.cell? ⟨(ad.add (i.toNat * 6)).block,(ad.add (i.toNat * 6)).off + 1,none⟩=some (.int .i64 (Vg xs i).f1)∧w.cell? ⟨(ad.add (i.toNat * 6)).block,(ad.add (i.toNat * 6)).off + 2,none⟩=some (.int .i64 (Vg xs i).f2)∧w.cell? ⟨(ad.add (i.toNat * 6)).block,(ad.add (i.toNat * 6)).off + 3,none⟩=some (.bool (Vg xs i).f3)∧w.cell? ⟨(ad.add (i.toNat * 6)).block,(ad.add (i.toNat * 6)).off + 4,none⟩=some (.string (Vg xs i).f4)∧w.cell? ⟨(ad.add (i.toNat * 6)).block,(ad.add (i.toNat * 6)).off + 5,none⟩=some (.int .i64 (Vg xs i).f5):=by
 obtain⟨ad,c,e,_,hK,hc0⟩:=Kd.C_get h z72 i h0 h1;have hc : ∀ j u,c[j]? = some u→w.cell? (ad.add (i.toNat * 6 + j))=some u:=hc0;obtain rfl:=k72_open hK;exact⟨ad,e,hc 0 _ rfl,by rw [← zF _ _ 1 (by omega)];exact hc 1 _ rfl,by rw [← zF _ _ 2 (by omega)];exact hc 2 _ rfl,by rw [← zF _ _ 3 (by omega)];exact hc 3 _ rfl,by rw [← zF _ _ 4 (by omega)];exact hc 4 _ rfl,by rw [← zF _ _ 5 (by omega)];exact hc 5 _ rfl⟩
structure zo where
 f0 : Int
 f1 : Int
 f2 : S72
def z74 : zo:=⟨(0 : Int),(0 : Int),z72⟩
def jW : Kd zo:=Kd.iso (Kd.pair (Kd.int .i64) (Kd.pair (Kd.int .i64) k72)) (fun x : zo=>(x.f0,x.f1,x.f2))
theorem k74_open {w : World} {x : zo} {cs : List Value} (h : jW.K w x cs) : cs = [.int .i64 x.f0,.int .i64 x.f1,.int .i64 x.f2.f0,.int .i64 x.f2.f1,.int .i64 x.f2.f2,.bool x.f2.f3,.string x.f2.f4,.int .i64 x.f2.f5]:=by
 obtain⟨_,_,rfl,rfl,⟨_,_,rfl,rfl,s2⟩⟩:=h;obtain rfl:=k72_open s2;exact rfl
theorem k74_openM {w : World} {base : Nat} {ok : Nat→Prop} {x : zo} {cs : List Value} (h : jW.M w base ok x cs) : cs = [.int .i64 x.f0,.int .i64 x.f1,.int .i64 x.f2.f0,.int .i64 x.f2.f1,.int .i64 x.f2.f2,.bool x.f2.f3,.string x.f2.f4,.int .i64 x.f2.f5]:=by
 obtain⟨_,_,rfl,rfl,⟨_,_,rfl,rfl,s2⟩⟩:=h;obtain rfl:=k72_openM s2;exact rfl
theorem k74_mk(w : World)(x : zo)  : jW.K w x [.int .i64 x.f0,.int .i64 x.f1,.int .i64 x.f2.f0,.int .i64 x.f2.f1,.int .i64 x.f2.f2,.bool x.f2.f3,.string x.f2.f4,.int .i64 x.f2.f5]:=⟨[.int .i64 x.f0],[.int .i64 x.f1,.int .i64 x.f2.f0,.int .i64 x.f2.f1,.int .i64 x.f2.f2,.bool x.f2.f3,.string x.f2.f4,.int .i64 x.f2.f5],rfl,rfl,⟨[.int .i64 x.f1],[.int .i64 x.f2.f0,.int .i64 x.f2.f1,.int .i64 x.f2.f2,.bool x.f2.f3,.string x.f2.f4,.int .i64 x.f2.f5],rfl,rfl,(k72_mk w x.f2)⟩⟩
theorem k74_mkM(w : World)(base : Nat)(ok : Nat→Prop)(x : zo)  : jW.M w base ok x [.int .i64 x.f0,.int .i64 x.f1,.int .i64 x.f2.f0,.int .i64 x.f2.f1,.int .i64 x.f2.f2,.bool x.f2.f3,.string x.f2.f4,.int .i64 x.f2.f5]:=⟨[.int .i64 x.f0],[.int .i64 x.f1,.int .i64 x.f2.f0,.int .i64 x.f2.f1,.int .i64 x.f2.f2,.bool x.f2.f3,.string x.f2.f4,.int .i64 x.f2.f5],rfl,rfl,⟨[.int .i64 x.f1],[.int .i64 x.f2.f0,.int .i64 x.f2.f1,.int .i64 x.f2.f2,.bool x.f2.f3,.string x.f2.f4,.int .i64 x.f2.f5],rfl,rfl,(k72_mkM w base ok x.f2)⟩⟩
def qf(xs : List zo)(i : Int) : zo:=xs.getD i.toNat z74
theorem zp {w : World} {A : Option Addr} {n : Nat} {xs : List zo} (h : Kd.C jW w A n xs) (i : Int) (h0 : 0≤i) (h1 : i<n) : ∃ ad,A=some ad∧w.cell? (ad.add (i.toNat * 8))=some (.int .i64 (qf xs i).f0)∧w.cell? ⟨(ad.add (i.toNat * 8)).block,(ad.add (i.toNat * 8)).off + 1,none⟩=some (.int .i64 (qf xs i).f1)∧w.cell? ⟨(ad.add (i.toNat * 8)).block,(ad.add (i.toNat * 8)).off + 2,none⟩=some (.int .i64 (qf xs i).f2.f0)∧w.cell? ⟨(ad.add (i.toNat * 8)).block,(ad.add (i.toNat * 8)).off + 3,none⟩=some (.int .i64 (qf xs i).f2.f1)∧w.cell? ⟨(ad.add (i.toNat * 8)).block,(ad.add (i.toNat * 8)).off + 4,none⟩=some (.int .i64 (qf xs i).f2.f2)∧w.cell? ⟨(ad.add (i.toNat * 8)).block,(ad.add (i.toNat * 8)).off + 5,none⟩=some (.bool (qf xs i).f2.f3)∧w.cell? ⟨(ad.add (i.toNat * 8)).block,(ad.add (i.toNat * 8)).off + 6,none⟩=some (.string (qf xs i).f2.f4)∧w.cell? ⟨(ad.add (i.toNat * 8)).block,(ad.add (i.toNat * 8)).off + 7,none⟩=some (.int .i64 (qf xs i).f2.f5):=by
 obtain⟨ad,c,e,_,hK,hc0⟩:=Kd.C_get h z74 i h0 h1;have hc : ∀ j u,c[j]? = some u→w.cell? (ad.add (i.toNat * 8 + j))=some u:=hc0;obtain rfl:=k74_open hK;exact⟨ad,e,hc 0 _ rfl,by rw [← zF _ _ 1 (by omega)];exact hc 1 _ rfl,by rw [← zF _ _ 2 (by omega)];exact hc 2 _ rfl,by rw [← zF _ _ 3 (by omega)];exact hc 3 _ rfl,by rw [← zF _ _ 4 (by omega)];exact hc 4 _ rfl,by rw [← zF _ _ 5 (by omega)];exact hc 5 _ rfl,by rw [← zF _ _ 6 (by omega)];exact hc 6 _ rfl,by rw [← zF _ _ 7 (by omega)];exact hc 7 _ rfl⟩
structure vP where
 f0 : ByteArray
 f1 : ByteArray
 f2 : Int
def z50 : vP:=⟨(⟨#[]⟩ : ByteArray),(⟨#[]⟩ : ByteArray),(0 : Int)⟩
def zM : Kd vP:=Kd.iso (Kd.pair Kd.string (Kd.pair Kd.string (Kd.int .i64))) (fun x : vP=>(x.f0,x.f1,x.f2))
theorem VJ {w : World} {x : vP} {cs : List Value} (h : zM.K w x cs) : cs = [.string x.f0,.string x.f1,.int .i64 x.f2]:=by
 obtain⟨_,_,rfl,rfl,⟨_,_,rfl,rfl,rfl⟩⟩:=h;exact rfl
theorem jy {w : World} {base : Nat} {ok : Nat→Prop} {x : vP} {cs : List Value} (h : zM.M w base ok x cs) : cs = [.string x.f0,.string x.f1,.int .i64 x.f2]:=by
 obtain⟨_,_,rfl,rfl,⟨_,_,rfl,rfl,rfl⟩⟩:=h;exact rfl
theorem k50_mk(w : World)(x : vP)  : zM.K w x [.string x.f0,.string x.f1,.int .i64 x.f2]:=⟨[.string x.f0],[.string x.f1,.int .i64 x.f2],rfl,rfl,⟨[.string x.f1],[.int .i64 x.f2],rfl,rfl,rfl⟩⟩
theorem jq(w : World)(base : Nat)(ok : Nat→Prop)(x : vP)  : zM.M w base ok x [.string x.f0,.string x.f1,.int .i64 x.f2]:=⟨[.string x.f0],[.string x.f1,.int .i64 x.f2],rfl,rfl,⟨[.string x.f1],[.int .i64 x.f2],rfl,rfl,rfl⟩⟩
def qj(xs : List vP)(i : Int) : vP:=xs.getD i.toNat z50
theorem vY {w : World} {A : Option Addr} {n : Nat} {xs : List vP} (h : Kd.C zM w A n xs) (i : Int) (h0 : 0≤i) (h1 : i<n) : ∃ ad,A=some ad∧w.cell? (ad.add (i.toNat * 3))=some (.string (qj xs i).f0)∧w.cell? ⟨(ad.add (i.toNat * 3)).block,(ad.add (i.toNat * 3)).off + 1,none⟩=some (.string (qj xs i).f1)∧w.cell? ⟨(ad.add (i.toNat * 3)).block,(ad.add (i.toNat * 3)).off + 2,none⟩=some (.int .i64 (qj xs i).f2):=by
 obtain⟨ad,c,e,_,hK,hc0⟩:=Kd.C_get h z50 i h0 h1;have hc : ∀ j u,c[j]? = some u→w.cell? (ad.add (i.toNat * 3 + j))=some u:=hc0;obtain rfl:=VJ hK;exact⟨ad,e,hc 0 _ rfl,by rw [← zF _ _ 1 (by omega)];exact hc 1 _ rfl,by rw [← zF _ _ 2 (by omega)];exact hc 2 _ rfl⟩
end Go.Proofs.YtalpmbeddldfoaaDoor.PA
