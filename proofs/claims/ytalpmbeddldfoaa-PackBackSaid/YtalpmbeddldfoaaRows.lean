/-
  No cell of these rows narrows 'for every input' (looked for: loops, veiled, ifaces, maps, wideKeys, modest, calm, conditions, laid).
  DERIVED. THE GIVEN ROWS OF THIS SEAT. 11 by the template 'for every input the law returns true; each argument reads behind the call as it read before'; 0 by the template 'total and deterministic' (their statements: YtalpmbeddldfoaaTotals.lean).
  GIVEN WITH THE SEED: the statements are not yours to turn. If you find one false, say at which input.
  Laid BY PROGRAM, IN A SANDBOX (cutbox-rows.mjs): the forced cells as the released guide's own fill.sh prints them over the translation 2e1cb9a4b6ad0daf… (all of the seat's roots in one cut). By AI agents, Wed Nov 11 2026. No macro, syntax, notation, axiom, sorry.
-/
import Derived.Test.YtalpmbeddldfoaaChecked
import GoSem.Claim
import GoSem.ClaimJoined
import GoSem.ClaimMapViews
import Derived.JoinedTies
import Derived.KernelRfl
namespace Go.Proofs.Ytalpmbeddldfoaa
/- THE CELL 'sum', in the pinned program and in every row, IS THE sha256 OF THE DUMP (.gsa) THAT YtalpmbeddldfoaaProg.lean LOADS. Nothing in Lean hashes anything: it is a label: what it is worth is what the hold of that sum in a sandbox is worth. -/
noncomputable def Try.pinned : Pinned := { name := "ytalpmbeddldfoaa", sum := "2e1cb9a4b6ad0daf0c8ba5d5c503d1110a489f3f4adeb616877ab032178ee863", checked := Try.checked }
namespace Rows
def none {H : Type} : Left H := { results := [], args := [] }

/-- 'changeoverlaw32.LedgerNext': WHATEVER THE INPUT: true; the input reads as it did. -/
def ledgerNextSpec : ChangeSpec := { name := "ledgerNext", fn := fun _ => fun
  | [d1, d2] => { results := [.lit (.bool true)], args := [d1, d2] }
  | _ => none }
def ledgerNextRow : OpenClaim := { program := "ytalpmbeddldfoaa", sum := "2e1cb9a4b6ad0daf0c8ba5d5c503d1110a489f3f4adeb616877ab032178ee863", func := "changeover/changeoverlaw32.LedgerNext", spec := "ledgerNext", unfollowed := true, recurses := true, apart := false }
def LedgerNextSaid : Prop := ledgerNextRow.holds Try.pinned (OpenSpec.ofChange ledgerNextSpec)

/-- ITS FALSE NEIGHBOUR: 'it returns false'. Refute it at one input. -/
def ledgerNextWrong : ChangeSpec := { name := "ledgerNext", fn := fun _ => fun
  | [d1, d2] => { results := [.lit (.bool false)], args := [d1, d2] }
  | _ => none }
def LedgerNextWrongFalsely : Prop := ledgerNextRow.holds Try.pinned (OpenSpec.ofChange ledgerNextWrong)

/-- 'changeoverlaw04.PackWrites': WHATEVER THE INPUT: true; the input reads as it did. -/
def packWritesSpec : ChangeSpec := { name := "packWrites", fn := fun _ => fun
  | [d] => { results := [.lit (.bool true)], args := [d] }
  | _ => none }
def packWritesRow : OpenClaim := { program := "ytalpmbeddldfoaa", sum := "2e1cb9a4b6ad0daf0c8ba5d5c503d1110a489f3f4adeb616877ab032178ee863", func := "changeover/changeoverlaw04.PackWrites", spec := "packWrites", unfollowed := true, recurses := true, apart := false }
def PackWritesSaid : Prop := packWritesRow.holds Try.pinned (OpenSpec.ofChange packWritesSpec)

/-- ITS FALSE NEIGHBOUR: 'it returns false'. Refute it at one input. -/
def packWritesWrong : ChangeSpec := { name := "packWrites", fn := fun _ => fun
  | [d] => { results := [.lit (.bool false)], args := [d] }
  | _ => none }
def PackWritesWrongFalsely : Prop := packWritesRow.holds Try.pinned (OpenSpec.ofChange packWritesWrong)

/-- 'changeoverlaw04.PackBack': WHATEVER THE INPUT: true; the input reads as it did. -/
def packBackSpec : ChangeSpec := { name := "packBack", fn := fun _ => fun
  | [d] => { results := [.lit (.bool true)], args := [d] }
  | _ => none }
def packBackRow : OpenClaim := { program := "ytalpmbeddldfoaa", sum := "2e1cb9a4b6ad0daf0c8ba5d5c503d1110a489f3f4adeb616877ab032178ee863", func := "changeover/changeoverlaw04.PackBack", spec := "packBack", unfollowed := true, recurses := true, apart := false }
def PackBackSaid : Prop := packBackRow.holds Try.pinned (OpenSpec.ofChange packBackSpec)

/-- ITS FALSE NEIGHBOUR: 'it returns false'. Refute it at one input. -/
def packBackWrong : ChangeSpec := { name := "packBack", fn := fun _ => fun
  | [d] => { results := [.lit (.bool false)], args := [d] }
  | _ => none }
def PackBackWrongFalsely : Prop := packBackRow.holds Try.pinned (OpenSpec.ofChange packBackWrong)

/-- 'changeoverlaw04.PackReads': WHATEVER THE INPUT: true; the input reads as it did. -/
def packReadsSpec : ChangeSpec := { name := "packReads", fn := fun _ => fun
  | [d1, d2, d3] => { results := [.lit (.bool true)], args := [d1, d2, d3] }
  | _ => none }
def packReadsRow : OpenClaim := { program := "ytalpmbeddldfoaa", sum := "2e1cb9a4b6ad0daf0c8ba5d5c503d1110a489f3f4adeb616877ab032178ee863", func := "changeover/changeoverlaw04.PackReads", spec := "packReads", unfollowed := true, recurses := true, apart := false }
def PackReadsSaid : Prop := packReadsRow.holds Try.pinned (OpenSpec.ofChange packReadsSpec)

/-- ITS FALSE NEIGHBOUR: 'it returns false'. Refute it at one input. -/
def packReadsWrong : ChangeSpec := { name := "packReads", fn := fun _ => fun
  | [d1, d2, d3] => { results := [.lit (.bool false)], args := [d1, d2, d3] }
  | _ => none }
def PackReadsWrongFalsely : Prop := packReadsRow.holds Try.pinned (OpenSpec.ofChange packReadsWrong)

/-- 'changeoverlaw04.PackNobody': WHATEVER THE INPUT: true; the input reads as it did. -/
def packNobodySpec : ChangeSpec := { name := "packNobody", fn := fun _ => fun
  | [d1, d2] => { results := [.lit (.bool true)], args := [d1, d2] }
  | _ => none }
def packNobodyRow : OpenClaim := { program := "ytalpmbeddldfoaa", sum := "2e1cb9a4b6ad0daf0c8ba5d5c503d1110a489f3f4adeb616877ab032178ee863", func := "changeover/changeoverlaw04.PackNobody", spec := "packNobody", unfollowed := true, recurses := true, apart := false }
def PackNobodySaid : Prop := packNobodyRow.holds Try.pinned (OpenSpec.ofChange packNobodySpec)

/-- ITS FALSE NEIGHBOUR: 'it returns false'. Refute it at one input. -/
def packNobodyWrong : ChangeSpec := { name := "packNobody", fn := fun _ => fun
  | [d1, d2] => { results := [.lit (.bool false)], args := [d1, d2] }
  | _ => none }
def PackNobodyWrongFalsely : Prop := packNobodyRow.holds Try.pinned (OpenSpec.ofChange packNobodyWrong)

/-- 'changeoverlaw22.SessWhich': WHATEVER THE INPUT: true; the input reads as it did. -/
def sessWhichSpec : ChangeSpec := { name := "sessWhich", fn := fun _ => fun
  | [d1, d2, d3] => { results := [.lit (.bool true)], args := [d1, d2, d3] }
  | _ => none }
def sessWhichRow : OpenClaim := { program := "ytalpmbeddldfoaa", sum := "2e1cb9a4b6ad0daf0c8ba5d5c503d1110a489f3f4adeb616877ab032178ee863", func := "changeover/changeoverlaw22.SessWhich", spec := "sessWhich", inPlace := ["slices.overlaps[changeover/api.Session]"], unfollowed := true, recurses := true, apart := false }
def SessWhichSaid : Prop := sessWhichRow.holds Try.pinned (OpenSpec.ofChange sessWhichSpec)

/-- ITS FALSE NEIGHBOUR: 'it returns false'. Refute it at one input. -/
def sessWhichWrong : ChangeSpec := { name := "sessWhich", fn := fun _ => fun
  | [d1, d2, d3] => { results := [.lit (.bool false)], args := [d1, d2, d3] }
  | _ => none }
def SessWhichWrongFalsely : Prop := sessWhichRow.holds Try.pinned (OpenSpec.ofChange sessWhichWrong)

/-- 'changeoverlaw22.SessWith': WHATEVER THE INPUT: true; the input reads as it did. -/
def sessWithSpec : ChangeSpec := { name := "sessWith", fn := fun _ => fun
  | [d1, d2, d3] => { results := [.lit (.bool true)], args := [d1, d2, d3] }
  | _ => none }
def sessWithRow : OpenClaim := { program := "ytalpmbeddldfoaa", sum := "2e1cb9a4b6ad0daf0c8ba5d5c503d1110a489f3f4adeb616877ab032178ee863", func := "changeover/changeoverlaw22.SessWith", spec := "sessWith", inPlace := ["slices.overlaps[changeover/api.Session]"], unfollowed := true, recurses := true, apart := false }
def SessWithSaid : Prop := sessWithRow.holds Try.pinned (OpenSpec.ofChange sessWithSpec)

/-- ITS FALSE NEIGHBOUR: 'it returns false'. Refute it at one input. -/
def sessWithWrong : ChangeSpec := { name := "sessWith", fn := fun _ => fun
  | [d1, d2, d3] => { results := [.lit (.bool false)], args := [d1, d2, d3] }
  | _ => none }
def SessWithWrongFalsely : Prop := sessWithRow.holds Try.pinned (OpenSpec.ofChange sessWithWrong)

/-- 'changeoverlaw23.KvoneKeeps': WHATEVER THE INPUT: true; the input reads as it did. -/
def kvoneKeepsSpec : ChangeSpec := { name := "kvoneKeeps", fn := fun _ => fun
  | [d1, d2, d3] => { results := [.lit (.bool true)], args := [d1, d2, d3] }
  | _ => none }
def kvoneKeepsRow : OpenClaim := { program := "ytalpmbeddldfoaa", sum := "2e1cb9a4b6ad0daf0c8ba5d5c503d1110a489f3f4adeb616877ab032178ee863", func := "changeover/changeoverlaw23.KvoneKeeps", spec := "kvoneKeeps", inPlace := ["internal/bytealg.abigen_runtime_cmpstring", "slices.overlaps[changeover/api.Pair]"], unfollowed := true, recurses := true, apart := false }
def KvoneKeepsSaid : Prop := kvoneKeepsRow.holds Try.pinned (OpenSpec.ofChange kvoneKeepsSpec)

/-- ITS FALSE NEIGHBOUR: 'it returns false'. Refute it at one input. -/
def kvoneKeepsWrong : ChangeSpec := { name := "kvoneKeeps", fn := fun _ => fun
  | [d1, d2, d3] => { results := [.lit (.bool false)], args := [d1, d2, d3] }
  | _ => none }
def KvoneKeepsWrongFalsely : Prop := kvoneKeepsRow.holds Try.pinned (OpenSpec.ofChange kvoneKeepsWrong)

/-- 'changeoverlaw24.KvtwoCas': WHATEVER THE INPUT: true; the input reads as it did. -/
def kvtwoCasSpec : ChangeSpec := { name := "kvtwoCas", fn := fun _ => fun
  | [d1, d2] => { results := [.lit (.bool true)], args := [d1, d2] }
  | _ => none }
def kvtwoCasRow : OpenClaim := { program := "ytalpmbeddldfoaa", sum := "2e1cb9a4b6ad0daf0c8ba5d5c503d1110a489f3f4adeb616877ab032178ee863", func := "changeover/changeoverlaw24.KvtwoCas", spec := "kvtwoCas", inPlace := ["internal/bytealg.abigen_runtime_cmpstring", "slices.overlaps[changeover/api.Pair]"], unfollowed := true, recurses := true, apart := false }
def KvtwoCasSaid : Prop := kvtwoCasRow.holds Try.pinned (OpenSpec.ofChange kvtwoCasSpec)

/-- ITS FALSE NEIGHBOUR: 'it returns false'. Refute it at one input. -/
def kvtwoCasWrong : ChangeSpec := { name := "kvtwoCas", fn := fun _ => fun
  | [d1, d2] => { results := [.lit (.bool false)], args := [d1, d2] }
  | _ => none }
def KvtwoCasWrongFalsely : Prop := kvtwoCasRow.holds Try.pinned (OpenSpec.ofChange kvtwoCasWrong)

/-- 'changeoverlaw32.LedgerAgrees': WHATEVER THE INPUT: true; the input reads as it did. -/
def ledgerAgreesSpec : ChangeSpec := { name := "ledgerAgrees", fn := fun _ => fun
  | [d1, d2] => { results := [.lit (.bool true)], args := [d1, d2] }
  | _ => none }
def ledgerAgreesRow : OpenClaim := { program := "ytalpmbeddldfoaa", sum := "2e1cb9a4b6ad0daf0c8ba5d5c503d1110a489f3f4adeb616877ab032178ee863", func := "changeover/changeoverlaw32.LedgerAgrees", spec := "ledgerAgrees", inPlace := ["slices.overlaps[changeover/api.Entry]"], unfollowed := true, recurses := true, apart := false }
def LedgerAgreesSaid : Prop := ledgerAgreesRow.holds Try.pinned (OpenSpec.ofChange ledgerAgreesSpec)

/-- ITS FALSE NEIGHBOUR: 'it returns false'. Refute it at one input. -/
def ledgerAgreesWrong : ChangeSpec := { name := "ledgerAgrees", fn := fun _ => fun
  | [d1, d2] => { results := [.lit (.bool false)], args := [d1, d2] }
  | _ => none }
def LedgerAgreesWrongFalsely : Prop := ledgerAgreesRow.holds Try.pinned (OpenSpec.ofChange ledgerAgreesWrong)

/-- 'changeoverlaw24.KvtwoOlder': WHATEVER THE INPUT: true; the input reads as it did. -/
def kvtwoOlderSpec : ChangeSpec := { name := "kvtwoOlder", fn := fun _ => fun
  | [d1, d2] => { results := [.lit (.bool true)], args := [d1, d2] }
  | _ => none }
def kvtwoOlderRow : OpenClaim := { program := "ytalpmbeddldfoaa", sum := "2e1cb9a4b6ad0daf0c8ba5d5c503d1110a489f3f4adeb616877ab032178ee863", func := "changeover/changeoverlaw24.KvtwoOlder", spec := "kvtwoOlder", inPlace := ["internal/bytealg.abigen_runtime_cmpstring", "slices.overlaps[changeover/api.Pair]"], unfollowed := true, recurses := true, apart := false }
def KvtwoOlderSaid : Prop := kvtwoOlderRow.holds Try.pinned (OpenSpec.ofChange kvtwoOlderSpec)

/-- ITS FALSE NEIGHBOUR: 'it returns false'. Refute it at one input. -/
def kvtwoOlderWrong : ChangeSpec := { name := "kvtwoOlder", fn := fun _ => fun
  | [d1, d2] => { results := [.lit (.bool false)], args := [d1, d2] }
  | _ => none }
def KvtwoOlderWrongFalsely : Prop := kvtwoOlderRow.holds Try.pinned (OpenSpec.ofChange kvtwoOlderWrong)

/- THE SECOND FORM. 'bulk': how many values and letters a reading holds, each counted each time it is reached (what is shared counts as often as it is met; a slice's spare places count too). A statement '..UptoSaid' is the law's where the arguments, and the package variables that the reading takes, are together of bulk at most 1048576: NARROWER than '..Said'. Prove '..Said' where nothing that the law and all that it calls make is longer than what came in: it says more and counts as full. Else prove '..UptoSaid'. A law counts once. -/
mutual
def uptoBulk {H : Type} : DataW H → Nat
  | .lit (.string bytes) => bytes.length + 1
  | .lit _ => 1
  | .nil => 1
  | .ptr d => uptoBulk d + 1
  | .slice elems spare => uptoBulkAll elems + uptoBulkAll spare + 1
  | .agg parts => uptoBulkAll parts + 1
  | .iface _ d => uptoBulk d + 1
  | .map entries => uptoBulkEntries entries + 1
  | .held _ => 1
def uptoBulkAll {H : Type} : List (DataW H) → Nat
  | [] => 0
  | d :: r => uptoBulk d + uptoBulkAll r
def uptoBulkEntries {H : Type} : List (Lit × DataW H) → Nat
  | [] => 0
  | x :: r => uptoBulkEntry x + uptoBulkEntries r
def uptoBulkEntry {H : Type} : Lit × DataW H → Nat
  | (.string bytes, d) => bytes.length + uptoBulk d + 1
  | (_, d) => uptoBulk d + 1
 end
def uptoSmall : (H : Type) → List (DataW H) → Bool := fun _ ds => decide (uptoBulkAll ds ≤ 1048576)
def OpenSpec.upto (s : _root_.Go.ChangeSpec) : _root_.Go.OpenSpec := { _root_.Go.OpenSpec.ofChange s with cond := some uptoSmall }

/-- 'changeoverlaw32.LedgerNext', WHERE WHAT IT READS IS OF BULK AT MOST 1048576: true; the input reads as it did. -/
def ledgerNextUptoRow : OpenClaim := { program := "ytalpmbeddldfoaa", sum := "2e1cb9a4b6ad0daf0c8ba5d5c503d1110a489f3f4adeb616877ab032178ee863", func := "changeover/changeoverlaw32.LedgerNext", spec := "ledgerNext", unfollowed := true, recurses := true, apart := false, narrowed := true }
def LedgerNextUptoSaid : Prop := ledgerNextUptoRow.holds Try.pinned (OpenSpec.upto ledgerNextSpec)

/-- 'changeoverlaw04.PackWrites', WHERE WHAT IT READS IS OF BULK AT MOST 1048576: true; the input reads as it did. -/
def packWritesUptoRow : OpenClaim := { program := "ytalpmbeddldfoaa", sum := "2e1cb9a4b6ad0daf0c8ba5d5c503d1110a489f3f4adeb616877ab032178ee863", func := "changeover/changeoverlaw04.PackWrites", spec := "packWrites", unfollowed := true, recurses := true, apart := false, narrowed := true }
def PackWritesUptoSaid : Prop := packWritesUptoRow.holds Try.pinned (OpenSpec.upto packWritesSpec)

/-- 'changeoverlaw04.PackBack', WHERE WHAT IT READS IS OF BULK AT MOST 1048576: true; the input reads as it did. -/
def packBackUptoRow : OpenClaim := { program := "ytalpmbeddldfoaa", sum := "2e1cb9a4b6ad0daf0c8ba5d5c503d1110a489f3f4adeb616877ab032178ee863", func := "changeover/changeoverlaw04.PackBack", spec := "packBack", unfollowed := true, recurses := true, apart := false, narrowed := true }
def PackBackUptoSaid : Prop := packBackUptoRow.holds Try.pinned (OpenSpec.upto packBackSpec)

/-- 'changeoverlaw04.PackReads', WHERE WHAT IT READS IS OF BULK AT MOST 1048576: true; the input reads as it did. -/
def packReadsUptoRow : OpenClaim := { program := "ytalpmbeddldfoaa", sum := "2e1cb9a4b6ad0daf0c8ba5d5c503d1110a489f3f4adeb616877ab032178ee863", func := "changeover/changeoverlaw04.PackReads", spec := "packReads", unfollowed := true, recurses := true, apart := false, narrowed := true }
def PackReadsUptoSaid : Prop := packReadsUptoRow.holds Try.pinned (OpenSpec.upto packReadsSpec)

/-- 'changeoverlaw04.PackNobody', WHERE WHAT IT READS IS OF BULK AT MOST 1048576: true; the input reads as it did. -/
def packNobodyUptoRow : OpenClaim := { program := "ytalpmbeddldfoaa", sum := "2e1cb9a4b6ad0daf0c8ba5d5c503d1110a489f3f4adeb616877ab032178ee863", func := "changeover/changeoverlaw04.PackNobody", spec := "packNobody", unfollowed := true, recurses := true, apart := false, narrowed := true }
def PackNobodyUptoSaid : Prop := packNobodyUptoRow.holds Try.pinned (OpenSpec.upto packNobodySpec)

/-- 'changeoverlaw22.SessWhich', WHERE WHAT IT READS IS OF BULK AT MOST 1048576: true; the input reads as it did. -/
def sessWhichUptoRow : OpenClaim := { program := "ytalpmbeddldfoaa", sum := "2e1cb9a4b6ad0daf0c8ba5d5c503d1110a489f3f4adeb616877ab032178ee863", func := "changeover/changeoverlaw22.SessWhich", spec := "sessWhich", inPlace := ["slices.overlaps[changeover/api.Session]"], unfollowed := true, recurses := true, apart := false, narrowed := true }
def SessWhichUptoSaid : Prop := sessWhichUptoRow.holds Try.pinned (OpenSpec.upto sessWhichSpec)

/-- 'changeoverlaw22.SessWith', WHERE WHAT IT READS IS OF BULK AT MOST 1048576: true; the input reads as it did. -/
def sessWithUptoRow : OpenClaim := { program := "ytalpmbeddldfoaa", sum := "2e1cb9a4b6ad0daf0c8ba5d5c503d1110a489f3f4adeb616877ab032178ee863", func := "changeover/changeoverlaw22.SessWith", spec := "sessWith", inPlace := ["slices.overlaps[changeover/api.Session]"], unfollowed := true, recurses := true, apart := false, narrowed := true }
def SessWithUptoSaid : Prop := sessWithUptoRow.holds Try.pinned (OpenSpec.upto sessWithSpec)

/-- 'changeoverlaw23.KvoneKeeps', WHERE WHAT IT READS IS OF BULK AT MOST 1048576: true; the input reads as it did. -/
def kvoneKeepsUptoRow : OpenClaim := { program := "ytalpmbeddldfoaa", sum := "2e1cb9a4b6ad0daf0c8ba5d5c503d1110a489f3f4adeb616877ab032178ee863", func := "changeover/changeoverlaw23.KvoneKeeps", spec := "kvoneKeeps", inPlace := ["internal/bytealg.abigen_runtime_cmpstring", "slices.overlaps[changeover/api.Pair]"], unfollowed := true, recurses := true, apart := false, narrowed := true }
def KvoneKeepsUptoSaid : Prop := kvoneKeepsUptoRow.holds Try.pinned (OpenSpec.upto kvoneKeepsSpec)

/-- 'changeoverlaw24.KvtwoCas', WHERE WHAT IT READS IS OF BULK AT MOST 1048576: true; the input reads as it did. -/
def kvtwoCasUptoRow : OpenClaim := { program := "ytalpmbeddldfoaa", sum := "2e1cb9a4b6ad0daf0c8ba5d5c503d1110a489f3f4adeb616877ab032178ee863", func := "changeover/changeoverlaw24.KvtwoCas", spec := "kvtwoCas", inPlace := ["internal/bytealg.abigen_runtime_cmpstring", "slices.overlaps[changeover/api.Pair]"], unfollowed := true, recurses := true, apart := false, narrowed := true }
def KvtwoCasUptoSaid : Prop := kvtwoCasUptoRow.holds Try.pinned (OpenSpec.upto kvtwoCasSpec)

/-- 'changeoverlaw32.LedgerAgrees', WHERE WHAT IT READS IS OF BULK AT MOST 1048576: true; the input reads as it did. -/
def ledgerAgreesUptoRow : OpenClaim := { program := "ytalpmbeddldfoaa", sum := "2e1cb9a4b6ad0daf0c8ba5d5c503d1110a489f3f4adeb616877ab032178ee863", func := "changeover/changeoverlaw32.LedgerAgrees", spec := "ledgerAgrees", inPlace := ["slices.overlaps[changeover/api.Entry]"], unfollowed := true, recurses := true, apart := false, narrowed := true }
def LedgerAgreesUptoSaid : Prop := ledgerAgreesUptoRow.holds Try.pinned (OpenSpec.upto ledgerAgreesSpec)

/-- 'changeoverlaw24.KvtwoOlder', WHERE WHAT IT READS IS OF BULK AT MOST 1048576: true; the input reads as it did. -/
def kvtwoOlderUptoRow : OpenClaim := { program := "ytalpmbeddldfoaa", sum := "2e1cb9a4b6ad0daf0c8ba5d5c503d1110a489f3f4adeb616877ab032178ee863", func := "changeover/changeoverlaw24.KvtwoOlder", spec := "kvtwoOlder", inPlace := ["internal/bytealg.abigen_runtime_cmpstring", "slices.overlaps[changeover/api.Pair]"], unfollowed := true, recurses := true, apart := false, narrowed := true }
def KvtwoOlderUptoSaid : Prop := kvtwoOlderUptoRow.holds Try.pinned (OpenSpec.upto kvtwoOlderSpec)

end Rows
end Go.Proofs.Ytalpmbeddldfoaa
