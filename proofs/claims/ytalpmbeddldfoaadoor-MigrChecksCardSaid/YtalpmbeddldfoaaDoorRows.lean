/-
  NARROWER THAN 'FOR EVERY INPUT', by the rows' own cells (each row's printed sentence says how): RunesTexts: laid · RunesPlain: laid · RunesCuts: laid · RunesLower: laid · MigrUps: laid · MigrChecks: laid · SessChecks: laid · KvoneChecks: laid · KvtwoChecks: laid · SnaponeEncodes: laid · SnaponeDecodes: laid · SnaptwoGets: laid · SnaptwoMigrates: laid · SnaptwoPuts: laid.
  DERIVED. THE GIVEN ROWS OF THIS SEAT. 14 by the template 'for every input the law returns true; each argument reads behind the call as it read before'; 0 by the template 'total and deterministic' (their statements: YtalpmbeddldfoaaDoorTotals.lean).
  GIVEN WITH THE SEED: the statements are not yours to turn. If you find one false, say at which input.
  Laid BY PROGRAM, IN A SANDBOX (cutbox-rows.mjs): the forced cells as the released guide's own fill.sh prints them over the translation 285434b32fbf9641… (all of the seat's roots in one cut). By AI agents, Wed Nov 11 2026. No macro, syntax, notation, axiom, sorry.
-/
import Derived.Test.YtalpmbeddldfoaaDoorChecked
import GoSem.PinnedTables
import GoSem.Claim
import GoSem.ClaimJoined
import GoSem.ClaimMapViews
import Derived.JoinedTies
import Derived.KernelRfl
namespace Go.Proofs.YtalpmbeddldfoaaDoor
/- THE CELL 'sum', in the pinned program and in every row, IS THE sha256 OF THE DUMP (.gsa) THAT YtalpmbeddldfoaaDoorProg.lean LOADS. Nothing in Lean hashes anything: it is a label: what it is worth is what the hold of that sum in a sandbox is worth. -/
noncomputable def Tryd.pinned : Pinned := { name := "ytalpmbeddldfoaadoor", sum := "285434b32fbf96413f7fa7541186a13ccb425a2d8ff8e63e2d916d0afe5d05e8", checked := Tryd.checked }
namespace Rows
def none {H : Type} : Left H := { results := [], args := [] }

/- WHAT THE LISTED PACKAGE-LEVEL VARIABLES READ AS WHEN THE CALL BEGINS. Each datum BY PROGRAM (the guide's laid-datum.mjs) off the statement by which the dump's own 'gosem.cut.vars' lays the variable. In a bare row this is a premise. The card (YtalpmbeddldfoaaDoorCards.lean) ties it to the program's text. -/
def laid_unicode_utf8_acceptRanges {H : Type} : DataW H := .agg [.agg [.lit (.int .u8 128), .lit (.int .u8 191)], .agg [.lit (.int .u8 160), .lit (.int .u8 191)], .agg [.lit (.int .u8 128), .lit (.int .u8 159)], .agg [.lit (.int .u8 144), .lit (.int .u8 191)], .agg [.lit (.int .u8 128), .lit (.int .u8 143)], .agg [.lit (.int .u8 0), .lit (.int .u8 0)], .agg [.lit (.int .u8 0), .lit (.int .u8 0)], .agg [.lit (.int .u8 0), .lit (.int .u8 0)], .agg [.lit (.int .u8 0), .lit (.int .u8 0)], .agg [.lit (.int .u8 0), .lit (.int .u8 0)], .agg [.lit (.int .u8 0), .lit (.int .u8 0)], .agg [.lit (.int .u8 0), .lit (.int .u8 0)], .agg [.lit (.int .u8 0), .lit (.int .u8 0)], .agg [.lit (.int .u8 0), .lit (.int .u8 0)], .agg [.lit (.int .u8 0), .lit (.int .u8 0)], .agg [.lit (.int .u8 0), .lit (.int .u8 0)]]
/-- One of Go's own tables, pinned by name: the form's constant. -/
def laid_unicode_utf8_first : DataW Unit := Go.Pinned.utf8First

/-- 'changeoverlaw05.RunesTexts': WHATEVER THE INPUT: true; the input reads as it did. -/
def runesTextsSpec : ChangeSpec := { name := "runesTexts", fn := fun _ => fun
  | [d] => { results := [.lit (.bool true)], args := [d] }
  | _ => none }
def runesTextsRow : OpenClaim := { program := "ytalpmbeddldfoaadoor", sum := "285434b32fbf96413f7fa7541186a13ccb425a2d8ff8e63e2d916d0afe5d05e8", func := "changeover/changeoverlaw05.RunesTexts", spec := "runesTexts", unfollowed := true, recurses := true, named := ["unicode/utf8.first", "unicode/utf8.acceptRanges"], apart := false, laid := [("unicode/utf8.acceptRanges", laid_unicode_utf8_acceptRanges), ("unicode/utf8.first", laid_unicode_utf8_first)] }
def RunesTextsSaid : Prop := runesTextsRow.holds Tryd.pinned (OpenSpec.ofChange runesTextsSpec)

/-- ITS FALSE NEIGHBOUR: 'it returns false'. Refute it at one input. -/
def runesTextsWrong : ChangeSpec := { name := "runesTexts", fn := fun _ => fun
  | [d] => { results := [.lit (.bool false)], args := [d] }
  | _ => none }
def RunesTextsWrongFalsely : Prop := runesTextsRow.holds Tryd.pinned (OpenSpec.ofChange runesTextsWrong)

/-- 'changeoverlaw05.RunesPlain': WHATEVER THE INPUT: true; the input reads as it did. -/
def runesPlainSpec : ChangeSpec := { name := "runesPlain", fn := fun _ => fun
  | [d] => { results := [.lit (.bool true)], args := [d] }
  | _ => none }
def runesPlainRow : OpenClaim := { program := "ytalpmbeddldfoaadoor", sum := "285434b32fbf96413f7fa7541186a13ccb425a2d8ff8e63e2d916d0afe5d05e8", func := "changeover/changeoverlaw05.RunesPlain", spec := "runesPlain", unfollowed := true, recurses := true, named := ["unicode/utf8.first", "unicode/utf8.acceptRanges"], apart := false, laid := [("unicode/utf8.acceptRanges", laid_unicode_utf8_acceptRanges), ("unicode/utf8.first", laid_unicode_utf8_first)] }
def RunesPlainSaid : Prop := runesPlainRow.holds Tryd.pinned (OpenSpec.ofChange runesPlainSpec)

/-- ITS FALSE NEIGHBOUR: 'it returns false'. Refute it at one input. -/
def runesPlainWrong : ChangeSpec := { name := "runesPlain", fn := fun _ => fun
  | [d] => { results := [.lit (.bool false)], args := [d] }
  | _ => none }
def RunesPlainWrongFalsely : Prop := runesPlainRow.holds Tryd.pinned (OpenSpec.ofChange runesPlainWrong)

/-- 'changeoverlaw05.RunesCuts': WHATEVER THE INPUT: true; the input reads as it did. -/
def runesCutsSpec : ChangeSpec := { name := "runesCuts", fn := fun _ => fun
  | [d1, d2] => { results := [.lit (.bool true)], args := [d1, d2] }
  | _ => none }
def runesCutsRow : OpenClaim := { program := "ytalpmbeddldfoaadoor", sum := "285434b32fbf96413f7fa7541186a13ccb425a2d8ff8e63e2d916d0afe5d05e8", func := "changeover/changeoverlaw05.RunesCuts", spec := "runesCuts", unfollowed := true, recurses := true, named := ["unicode/utf8.first", "unicode/utf8.acceptRanges"], apart := false, laid := [("unicode/utf8.acceptRanges", laid_unicode_utf8_acceptRanges), ("unicode/utf8.first", laid_unicode_utf8_first)] }
def RunesCutsSaid : Prop := runesCutsRow.holds Tryd.pinned (OpenSpec.ofChange runesCutsSpec)

/-- ITS FALSE NEIGHBOUR: 'it returns false'. Refute it at one input. -/
def runesCutsWrong : ChangeSpec := { name := "runesCuts", fn := fun _ => fun
  | [d1, d2] => { results := [.lit (.bool false)], args := [d1, d2] }
  | _ => none }
def RunesCutsWrongFalsely : Prop := runesCutsRow.holds Tryd.pinned (OpenSpec.ofChange runesCutsWrong)

/-- 'changeoverlaw05.RunesLower': WHATEVER THE INPUT: true; the input reads as it did. -/
def runesLowerSpec : ChangeSpec := { name := "runesLower", fn := fun _ => fun
  | [d] => { results := [.lit (.bool true)], args := [d] }
  | _ => none }
def runesLowerRow : OpenClaim := { program := "ytalpmbeddldfoaadoor", sum := "285434b32fbf96413f7fa7541186a13ccb425a2d8ff8e63e2d916d0afe5d05e8", func := "changeover/changeoverlaw05.RunesLower", spec := "runesLower", unfollowed := true, recurses := true, named := ["unicode/utf8.first", "unicode/utf8.acceptRanges"], apart := false, laid := [("unicode/utf8.acceptRanges", laid_unicode_utf8_acceptRanges), ("unicode/utf8.first", laid_unicode_utf8_first)] }
def RunesLowerSaid : Prop := runesLowerRow.holds Tryd.pinned (OpenSpec.ofChange runesLowerSpec)

/-- ITS FALSE NEIGHBOUR: 'it returns false'. Refute it at one input. -/
def runesLowerWrong : ChangeSpec := { name := "runesLower", fn := fun _ => fun
  | [d] => { results := [.lit (.bool false)], args := [d] }
  | _ => none }
def RunesLowerWrongFalsely : Prop := runesLowerRow.holds Tryd.pinned (OpenSpec.ofChange runesLowerWrong)

/-- 'changeoverlaw25.MigrUps': WHATEVER THE INPUT: true; the input reads as it did. -/
def migrUpsSpec : ChangeSpec := { name := "migrUps", fn := fun _ => fun
  | [d] => { results := [.lit (.bool true)], args := [d] }
  | _ => none }
def migrUpsRow : OpenClaim := { program := "ytalpmbeddldfoaadoor", sum := "285434b32fbf96413f7fa7541186a13ccb425a2d8ff8e63e2d916d0afe5d05e8", func := "changeover/changeoverlaw25.MigrUps", spec := "migrUps", unfollowed := true, recurses := true, named := ["unicode/utf8.first", "unicode/utf8.acceptRanges"], apart := false, laid := [("unicode/utf8.acceptRanges", laid_unicode_utf8_acceptRanges), ("unicode/utf8.first", laid_unicode_utf8_first)] }
def MigrUpsSaid : Prop := migrUpsRow.holds Tryd.pinned (OpenSpec.ofChange migrUpsSpec)

/-- ITS FALSE NEIGHBOUR: 'it returns false'. Refute it at one input. -/
def migrUpsWrong : ChangeSpec := { name := "migrUps", fn := fun _ => fun
  | [d] => { results := [.lit (.bool false)], args := [d] }
  | _ => none }
def MigrUpsWrongFalsely : Prop := migrUpsRow.holds Tryd.pinned (OpenSpec.ofChange migrUpsWrong)

/-- 'changeoverlaw25.MigrChecks': WHATEVER THE INPUT: true; the input reads as it did. -/
def migrChecksSpec : ChangeSpec := { name := "migrChecks", fn := fun _ => fun
  | [d1, d2] => { results := [.lit (.bool true)], args := [d1, d2] }
  | _ => none }
def migrChecksRow : OpenClaim := { program := "ytalpmbeddldfoaadoor", sum := "285434b32fbf96413f7fa7541186a13ccb425a2d8ff8e63e2d916d0afe5d05e8", func := "changeover/changeoverlaw25.MigrChecks", spec := "migrChecks", unfollowed := true, recurses := true, named := ["unicode/utf8.first", "unicode/utf8.acceptRanges"], apart := false, laid := [("unicode/utf8.acceptRanges", laid_unicode_utf8_acceptRanges), ("unicode/utf8.first", laid_unicode_utf8_first)] }
def MigrChecksSaid : Prop := migrChecksRow.holds Tryd.pinned (OpenSpec.ofChange migrChecksSpec)

/-- ITS FALSE NEIGHBOUR: 'it returns false'. Refute it at one input. -/
def migrChecksWrong : ChangeSpec := { name := "migrChecks", fn := fun _ => fun
  | [d1, d2] => { results := [.lit (.bool false)], args := [d1, d2] }
  | _ => none }
def MigrChecksWrongFalsely : Prop := migrChecksRow.holds Tryd.pinned (OpenSpec.ofChange migrChecksWrong)

/-- 'changeoverlaw22.SessChecks': WHATEVER THE INPUT: true; the input reads as it did. -/
def sessChecksSpec : ChangeSpec := { name := "sessChecks", fn := fun _ => fun
  | [d] => { results := [.lit (.bool true)], args := [d] }
  | _ => none }
def sessChecksRow : OpenClaim := { program := "ytalpmbeddldfoaadoor", sum := "285434b32fbf96413f7fa7541186a13ccb425a2d8ff8e63e2d916d0afe5d05e8", func := "changeover/changeoverlaw22.SessChecks", spec := "sessChecks", inPlace := ["slices.overlaps[changeover/api.Session]"], unfollowed := true, recurses := true, named := ["unicode/utf8.first", "unicode/utf8.acceptRanges"], apart := false, laid := [("unicode/utf8.acceptRanges", laid_unicode_utf8_acceptRanges), ("unicode/utf8.first", laid_unicode_utf8_first)] }
def SessChecksSaid : Prop := sessChecksRow.holds Tryd.pinned (OpenSpec.ofChange sessChecksSpec)

/-- ITS FALSE NEIGHBOUR: 'it returns false'. Refute it at one input. -/
def sessChecksWrong : ChangeSpec := { name := "sessChecks", fn := fun _ => fun
  | [d] => { results := [.lit (.bool false)], args := [d] }
  | _ => none }
def SessChecksWrongFalsely : Prop := sessChecksRow.holds Tryd.pinned (OpenSpec.ofChange sessChecksWrong)

/-- 'changeoverlaw23.KvoneChecks': WHATEVER THE INPUT: true; the input reads as it did. -/
def kvoneChecksSpec : ChangeSpec := { name := "kvoneChecks", fn := fun _ => fun
  | [d1, d2] => { results := [.lit (.bool true)], args := [d1, d2] }
  | _ => none }
def kvoneChecksRow : OpenClaim := { program := "ytalpmbeddldfoaadoor", sum := "285434b32fbf96413f7fa7541186a13ccb425a2d8ff8e63e2d916d0afe5d05e8", func := "changeover/changeoverlaw23.KvoneChecks", spec := "kvoneChecks", inPlace := ["internal/bytealg.abigen_runtime_cmpstring", "slices.overlaps[changeover/api.Pair]"], unfollowed := true, recurses := true, named := ["unicode/utf8.first", "unicode/utf8.acceptRanges"], apart := false, laid := [("unicode/utf8.acceptRanges", laid_unicode_utf8_acceptRanges), ("unicode/utf8.first", laid_unicode_utf8_first)] }
def KvoneChecksSaid : Prop := kvoneChecksRow.holds Tryd.pinned (OpenSpec.ofChange kvoneChecksSpec)

/-- ITS FALSE NEIGHBOUR: 'it returns false'. Refute it at one input. -/
def kvoneChecksWrong : ChangeSpec := { name := "kvoneChecks", fn := fun _ => fun
  | [d1, d2] => { results := [.lit (.bool false)], args := [d1, d2] }
  | _ => none }
def KvoneChecksWrongFalsely : Prop := kvoneChecksRow.holds Tryd.pinned (OpenSpec.ofChange kvoneChecksWrong)

/-- 'changeoverlaw24.KvtwoChecks': WHATEVER THE INPUT: true; the input reads as it did. -/
def kvtwoChecksSpec : ChangeSpec := { name := "kvtwoChecks", fn := fun _ => fun
  | [d] => { results := [.lit (.bool true)], args := [d] }
  | _ => none }
def kvtwoChecksRow : OpenClaim := { program := "ytalpmbeddldfoaadoor", sum := "285434b32fbf96413f7fa7541186a13ccb425a2d8ff8e63e2d916d0afe5d05e8", func := "changeover/changeoverlaw24.KvtwoChecks", spec := "kvtwoChecks", inPlace := ["internal/bytealg.abigen_runtime_cmpstring", "slices.overlaps[changeover/api.Pair]"], unfollowed := true, recurses := true, named := ["unicode/utf8.first", "unicode/utf8.acceptRanges"], apart := false, laid := [("unicode/utf8.acceptRanges", laid_unicode_utf8_acceptRanges), ("unicode/utf8.first", laid_unicode_utf8_first)] }
def KvtwoChecksSaid : Prop := kvtwoChecksRow.holds Tryd.pinned (OpenSpec.ofChange kvtwoChecksSpec)

/-- ITS FALSE NEIGHBOUR: 'it returns false'. Refute it at one input. -/
def kvtwoChecksWrong : ChangeSpec := { name := "kvtwoChecks", fn := fun _ => fun
  | [d] => { results := [.lit (.bool false)], args := [d] }
  | _ => none }
def KvtwoChecksWrongFalsely : Prop := kvtwoChecksRow.holds Tryd.pinned (OpenSpec.ofChange kvtwoChecksWrong)

/-- 'changeoverlaw26.SnaponeEncodes': WHATEVER THE INPUT: true; the input reads as it did. -/
def snaponeEncodesSpec : ChangeSpec := { name := "snaponeEncodes", fn := fun _ => fun
  | [d] => { results := [.lit (.bool true)], args := [d] }
  | _ => none }
def snaponeEncodesRow : OpenClaim := { program := "ytalpmbeddldfoaadoor", sum := "285434b32fbf96413f7fa7541186a13ccb425a2d8ff8e63e2d916d0afe5d05e8", func := "changeover/changeoverlaw26.SnaponeEncodes", spec := "snaponeEncodes", unfollowed := true, recurses := true, named := ["unicode/utf8.first", "unicode/utf8.acceptRanges"], apart := false, laid := [("unicode/utf8.acceptRanges", laid_unicode_utf8_acceptRanges), ("unicode/utf8.first", laid_unicode_utf8_first)] }
def SnaponeEncodesSaid : Prop := snaponeEncodesRow.holds Tryd.pinned (OpenSpec.ofChange snaponeEncodesSpec)

/-- ITS FALSE NEIGHBOUR: 'it returns false'. Refute it at one input. -/
def snaponeEncodesWrong : ChangeSpec := { name := "snaponeEncodes", fn := fun _ => fun
  | [d] => { results := [.lit (.bool false)], args := [d] }
  | _ => none }
def SnaponeEncodesWrongFalsely : Prop := snaponeEncodesRow.holds Tryd.pinned (OpenSpec.ofChange snaponeEncodesWrong)

/-- 'changeoverlaw26.SnaponeDecodes': WHATEVER THE INPUT: true; the input reads as it did. -/
def snaponeDecodesSpec : ChangeSpec := { name := "snaponeDecodes", fn := fun _ => fun
  | [d] => { results := [.lit (.bool true)], args := [d] }
  | _ => none }
def snaponeDecodesRow : OpenClaim := { program := "ytalpmbeddldfoaadoor", sum := "285434b32fbf96413f7fa7541186a13ccb425a2d8ff8e63e2d916d0afe5d05e8", func := "changeover/changeoverlaw26.SnaponeDecodes", spec := "snaponeDecodes", unfollowed := true, recurses := true, named := ["unicode/utf8.first", "unicode/utf8.acceptRanges"], apart := false, laid := [("unicode/utf8.acceptRanges", laid_unicode_utf8_acceptRanges), ("unicode/utf8.first", laid_unicode_utf8_first)] }
def SnaponeDecodesSaid : Prop := snaponeDecodesRow.holds Tryd.pinned (OpenSpec.ofChange snaponeDecodesSpec)

/-- ITS FALSE NEIGHBOUR: 'it returns false'. Refute it at one input. -/
def snaponeDecodesWrong : ChangeSpec := { name := "snaponeDecodes", fn := fun _ => fun
  | [d] => { results := [.lit (.bool false)], args := [d] }
  | _ => none }
def SnaponeDecodesWrongFalsely : Prop := snaponeDecodesRow.holds Tryd.pinned (OpenSpec.ofChange snaponeDecodesWrong)

/-- 'changeoverlaw27.SnaptwoGets': WHATEVER THE INPUT: true; the input reads as it did. -/
def snaptwoGetsSpec : ChangeSpec := { name := "snaptwoGets", fn := fun _ => fun
  | [d] => { results := [.lit (.bool true)], args := [d] }
  | _ => none }
def snaptwoGetsRow : OpenClaim := { program := "ytalpmbeddldfoaadoor", sum := "285434b32fbf96413f7fa7541186a13ccb425a2d8ff8e63e2d916d0afe5d05e8", func := "changeover/changeoverlaw27.SnaptwoGets", spec := "snaptwoGets", unfollowed := true, recurses := true, named := ["unicode/utf8.first", "unicode/utf8.acceptRanges"], apart := false, laid := [("unicode/utf8.acceptRanges", laid_unicode_utf8_acceptRanges), ("unicode/utf8.first", laid_unicode_utf8_first)] }
def SnaptwoGetsSaid : Prop := snaptwoGetsRow.holds Tryd.pinned (OpenSpec.ofChange snaptwoGetsSpec)

/-- ITS FALSE NEIGHBOUR: 'it returns false'. Refute it at one input. -/
def snaptwoGetsWrong : ChangeSpec := { name := "snaptwoGets", fn := fun _ => fun
  | [d] => { results := [.lit (.bool false)], args := [d] }
  | _ => none }
def SnaptwoGetsWrongFalsely : Prop := snaptwoGetsRow.holds Tryd.pinned (OpenSpec.ofChange snaptwoGetsWrong)

/-- 'changeoverlaw27.SnaptwoMigrates': WHATEVER THE INPUT: true; the input reads as it did. -/
def snaptwoMigratesSpec : ChangeSpec := { name := "snaptwoMigrates", fn := fun _ => fun
  | [d1, d2] => { results := [.lit (.bool true)], args := [d1, d2] }
  | _ => none }
def snaptwoMigratesRow : OpenClaim := { program := "ytalpmbeddldfoaadoor", sum := "285434b32fbf96413f7fa7541186a13ccb425a2d8ff8e63e2d916d0afe5d05e8", func := "changeover/changeoverlaw27.SnaptwoMigrates", spec := "snaptwoMigrates", unfollowed := true, recurses := true, named := ["unicode/utf8.first", "unicode/utf8.acceptRanges"], apart := false, laid := [("unicode/utf8.acceptRanges", laid_unicode_utf8_acceptRanges), ("unicode/utf8.first", laid_unicode_utf8_first)] }
def SnaptwoMigratesSaid : Prop := snaptwoMigratesRow.holds Tryd.pinned (OpenSpec.ofChange snaptwoMigratesSpec)

/-- ITS FALSE NEIGHBOUR: 'it returns false'. Refute it at one input. -/
def snaptwoMigratesWrong : ChangeSpec := { name := "snaptwoMigrates", fn := fun _ => fun
  | [d1, d2] => { results := [.lit (.bool false)], args := [d1, d2] }
  | _ => none }
def SnaptwoMigratesWrongFalsely : Prop := snaptwoMigratesRow.holds Tryd.pinned (OpenSpec.ofChange snaptwoMigratesWrong)

/-- 'changeoverlaw27.SnaptwoPuts': WHATEVER THE INPUT: true; the input reads as it did. -/
def snaptwoPutsSpec : ChangeSpec := { name := "snaptwoPuts", fn := fun _ => fun
  | [d] => { results := [.lit (.bool true)], args := [d] }
  | _ => none }
def snaptwoPutsRow : OpenClaim := { program := "ytalpmbeddldfoaadoor", sum := "285434b32fbf96413f7fa7541186a13ccb425a2d8ff8e63e2d916d0afe5d05e8", func := "changeover/changeoverlaw27.SnaptwoPuts", spec := "snaptwoPuts", unfollowed := true, recurses := true, named := ["unicode/utf8.first", "unicode/utf8.acceptRanges"], apart := false, laid := [("unicode/utf8.acceptRanges", laid_unicode_utf8_acceptRanges), ("unicode/utf8.first", laid_unicode_utf8_first)] }
def SnaptwoPutsSaid : Prop := snaptwoPutsRow.holds Tryd.pinned (OpenSpec.ofChange snaptwoPutsSpec)

/-- ITS FALSE NEIGHBOUR: 'it returns false'. Refute it at one input. -/
def snaptwoPutsWrong : ChangeSpec := { name := "snaptwoPuts", fn := fun _ => fun
  | [d] => { results := [.lit (.bool false)], args := [d] }
  | _ => none }
def SnaptwoPutsWrongFalsely : Prop := snaptwoPutsRow.holds Tryd.pinned (OpenSpec.ofChange snaptwoPutsWrong)

/- THE SECOND FORM. 'bulk': how many values and letters a reading holds, each counted each time it is reached (what is shared counts as often as it is met; a slice's spare places count too). A statement '..UptoSaid' is the law's where the arguments, and the package variables that the reading takes, are together of bulk at most 1048576: NARROWER than '..Said'. Prove '..Said' where nothing that the law and all that it calls make is longer than what came in: it says more and counts as full. Else prove '..UptoSaid'. A law counts once. -/
mutual
def uptoBulk {H : Type} : DataW H → Nat
  | .lit (.string bytes) => bytes.length + 1
  | .lit _ => 1
  | .nil => 1
  | .ptr d => uptoBulk d + 1
  | .slice elems spare => uptoBulkAll elems + uptoBulkAll spare + 1
  | .agg parts => uptoBulkAll parts + 1
  | .iface _ d => uptoBulk d + 1
  | .map entries => uptoBulkEntries entries + 1
  | .held _ => 1
def uptoBulkAll {H : Type} : List (DataW H) → Nat
  | [] => 0
  | d :: r => uptoBulk d + uptoBulkAll r
def uptoBulkEntries {H : Type} : List (Lit × DataW H) → Nat
  | [] => 0
  | x :: r => uptoBulkEntry x + uptoBulkEntries r
def uptoBulkEntry {H : Type} : Lit × DataW H → Nat
  | (.string bytes, d) => bytes.length + uptoBulk d + 1
  | (_, d) => uptoBulk d + 1
 end
def uptoSmall : (H : Type) → List (DataW H) → Bool := fun _ ds => decide (uptoBulkAll ds ≤ 1048576)
def OpenSpec.upto (s : _root_.Go.ChangeSpec) : _root_.Go.OpenSpec := { _root_.Go.OpenSpec.ofChange s with cond := some uptoSmall }

/-- 'changeoverlaw05.RunesTexts', WHERE WHAT IT READS IS OF BULK AT MOST 1048576: true; the input reads as it did. -/
def runesTextsUptoRow : OpenClaim := { program := "ytalpmbeddldfoaadoor", sum := "285434b32fbf96413f7fa7541186a13ccb425a2d8ff8e63e2d916d0afe5d05e8", func := "changeover/changeoverlaw05.RunesTexts", spec := "runesTexts", unfollowed := true, recurses := true, named := ["unicode/utf8.first", "unicode/utf8.acceptRanges"], apart := false, laid := [("unicode/utf8.acceptRanges", laid_unicode_utf8_acceptRanges), ("unicode/utf8.first", laid_unicode_utf8_first)], narrowed := true }
def RunesTextsUptoSaid : Prop := runesTextsUptoRow.holds Tryd.pinned (OpenSpec.upto runesTextsSpec)

/-- 'changeoverlaw05.RunesPlain', WHERE WHAT IT READS IS OF BULK AT MOST 1048576: true; the input reads as it did. -/
def runesPlainUptoRow : OpenClaim := { program := "ytalpmbeddldfoaadoor", sum := "285434b32fbf96413f7fa7541186a13ccb425a2d8ff8e63e2d916d0afe5d05e8", func := "changeover/changeoverlaw05.RunesPlain", spec := "runesPlain", unfollowed := true, recurses := true, named := ["unicode/utf8.first", "unicode/utf8.acceptRanges"], apart := false, laid := [("unicode/utf8.acceptRanges", laid_unicode_utf8_acceptRanges), ("unicode/utf8.first", laid_unicode_utf8_first)], narrowed := true }
def RunesPlainUptoSaid : Prop := runesPlainUptoRow.holds Tryd.pinned (OpenSpec.upto runesPlainSpec)

/-- 'changeoverlaw05.RunesCuts', WHERE WHAT IT READS IS OF BULK AT MOST 1048576: true; the input reads as it did. -/
def runesCutsUptoRow : OpenClaim := { program := "ytalpmbeddldfoaadoor", sum := "285434b32fbf96413f7fa7541186a13ccb425a2d8ff8e63e2d916d0afe5d05e8", func := "changeover/changeoverlaw05.RunesCuts", spec := "runesCuts", unfollowed := true, recurses := true, named := ["unicode/utf8.first", "unicode/utf8.acceptRanges"], apart := false, laid := [("unicode/utf8.acceptRanges", laid_unicode_utf8_acceptRanges), ("unicode/utf8.first", laid_unicode_utf8_first)], narrowed := true }
def RunesCutsUptoSaid : Prop := runesCutsUptoRow.holds Tryd.pinned (OpenSpec.upto runesCutsSpec)

/-- 'changeoverlaw05.RunesLower', WHERE WHAT IT READS IS OF BULK AT MOST 1048576: true; the input reads as it did. -/
def runesLowerUptoRow : OpenClaim := { program := "ytalpmbeddldfoaadoor", sum := "285434b32fbf96413f7fa7541186a13ccb425a2d8ff8e63e2d916d0afe5d05e8", func := "changeover/changeoverlaw05.RunesLower", spec := "runesLower", unfollowed := true, recurses := true, named := ["unicode/utf8.first", "unicode/utf8.acceptRanges"], apart := false, laid := [("unicode/utf8.acceptRanges", laid_unicode_utf8_acceptRanges), ("unicode/utf8.first", laid_unicode_utf8_first)], narrowed := true }
def RunesLowerUptoSaid : Prop := runesLowerUptoRow.holds Tryd.pinned (OpenSpec.upto runesLowerSpec)

/-- 'changeoverlaw25.MigrUps', WHERE WHAT IT READS IS OF BULK AT MOST 1048576: true; the input reads as it did. -/
def migrUpsUptoRow : OpenClaim := { program := "ytalpmbeddldfoaadoor", sum := "285434b32fbf96413f7fa7541186a13ccb425a2d8ff8e63e2d916d0afe5d05e8", func := "changeover/changeoverlaw25.MigrUps", spec := "migrUps", unfollowed := true, recurses := true, named := ["unicode/utf8.first", "unicode/utf8.acceptRanges"], apart := false, laid := [("unicode/utf8.acceptRanges", laid_unicode_utf8_acceptRanges), ("unicode/utf8.first", laid_unicode_utf8_first)], narrowed := true }
def MigrUpsUptoSaid : Prop := migrUpsUptoRow.holds Tryd.pinned (OpenSpec.upto migrUpsSpec)

/-- 'changeoverlaw25.MigrChecks', WHERE WHAT IT READS IS OF BULK AT MOST 1048576: true; the input reads as it did. -/
def migrChecksUptoRow : OpenClaim := { program := "ytalpmbeddldfoaadoor", sum := "285434b32fbf96413f7fa7541186a13ccb425a2d8ff8e63e2d916d0afe5d05e8", func := "changeover/changeoverlaw25.MigrChecks", spec := "migrChecks", unfollowed := true, recurses := true, named := ["unicode/utf8.first", "unicode/utf8.acceptRanges"], apart := false, laid := [("unicode/utf8.acceptRanges", laid_unicode_utf8_acceptRanges), ("unicode/utf8.first", laid_unicode_utf8_first)], narrowed := true }
def MigrChecksUptoSaid : Prop := migrChecksUptoRow.holds Tryd.pinned (OpenSpec.upto migrChecksSpec)

/-- 'changeoverlaw22.SessChecks', WHERE WHAT IT READS IS OF BULK AT MOST 1048576: true; the input reads as it did. -/
def sessChecksUptoRow : OpenClaim := { program := "ytalpmbeddldfoaadoor", sum := "285434b32fbf96413f7fa7541186a13ccb425a2d8ff8e63e2d916d0afe5d05e8", func := "changeover/changeoverlaw22.SessChecks", spec := "sessChecks", inPlace := ["slices.overlaps[changeover/api.Session]"], unfollowed := true, recurses := true, named := ["unicode/utf8.first", "unicode/utf8.acceptRanges"], apart := false, laid := [("unicode/utf8.acceptRanges", laid_unicode_utf8_acceptRanges), ("unicode/utf8.first", laid_unicode_utf8_first)], narrowed := true }
def SessChecksUptoSaid : Prop := sessChecksUptoRow.holds Tryd.pinned (OpenSpec.upto sessChecksSpec)

/-- 'changeoverlaw23.KvoneChecks', WHERE WHAT IT READS IS OF BULK AT MOST 1048576: true; the input reads as it did. -/
def kvoneChecksUptoRow : OpenClaim := { program := "ytalpmbeddldfoaadoor", sum := "285434b32fbf96413f7fa7541186a13ccb425a2d8ff8e63e2d916d0afe5d05e8", func := "changeover/changeoverlaw23.KvoneChecks", spec := "kvoneChecks", inPlace := ["internal/bytealg.abigen_runtime_cmpstring", "slices.overlaps[changeover/api.Pair]"], unfollowed := true, recurses := true, named := ["unicode/utf8.first", "unicode/utf8.acceptRanges"], apart := false, laid := [("unicode/utf8.acceptRanges", laid_unicode_utf8_acceptRanges), ("unicode/utf8.first", laid_unicode_utf8_first)], narrowed := true }
def KvoneChecksUptoSaid : Prop := kvoneChecksUptoRow.holds Tryd.pinned (OpenSpec.upto kvoneChecksSpec)

/-- 'changeoverlaw24.KvtwoChecks', WHERE WHAT IT READS IS OF BULK AT MOST 1048576: true; the input reads as it did. -/
def kvtwoChecksUptoRow : OpenClaim := { program := "ytalpmbeddldfoaadoor", sum := "285434b32fbf96413f7fa7541186a13ccb425a2d8ff8e63e2d916d0afe5d05e8", func := "changeover/changeoverlaw24.KvtwoChecks", spec := "kvtwoChecks", inPlace := ["internal/bytealg.abigen_runtime_cmpstring", "slices.overlaps[changeover/api.Pair]"], unfollowed := true, recurses := true, named := ["unicode/utf8.first", "unicode/utf8.acceptRanges"], apart := false, laid := [("unicode/utf8.acceptRanges", laid_unicode_utf8_acceptRanges), ("unicode/utf8.first", laid_unicode_utf8_first)], narrowed := true }
def KvtwoChecksUptoSaid : Prop := kvtwoChecksUptoRow.holds Tryd.pinned (OpenSpec.upto kvtwoChecksSpec)

/-- 'changeoverlaw26.SnaponeEncodes', WHERE WHAT IT READS IS OF BULK AT MOST 1048576: true; the input reads as it did. -/
def snaponeEncodesUptoRow : OpenClaim := { program := "ytalpmbeddldfoaadoor", sum := "285434b32fbf96413f7fa7541186a13ccb425a2d8ff8e63e2d916d0afe5d05e8", func := "changeover/changeoverlaw26.SnaponeEncodes", spec := "snaponeEncodes", unfollowed := true, recurses := true, named := ["unicode/utf8.first", "unicode/utf8.acceptRanges"], apart := false, laid := [("unicode/utf8.acceptRanges", laid_unicode_utf8_acceptRanges), ("unicode/utf8.first", laid_unicode_utf8_first)], narrowed := true }
def SnaponeEncodesUptoSaid : Prop := snaponeEncodesUptoRow.holds Tryd.pinned (OpenSpec.upto snaponeEncodesSpec)

/-- 'changeoverlaw26.SnaponeDecodes', WHERE WHAT IT READS IS OF BULK AT MOST 1048576: true; the input reads as it did. -/
def snaponeDecodesUptoRow : OpenClaim := { program := "ytalpmbeddldfoaadoor", sum := "285434b32fbf96413f7fa7541186a13ccb425a2d8ff8e63e2d916d0afe5d05e8", func := "changeover/changeoverlaw26.SnaponeDecodes", spec := "snaponeDecodes", unfollowed := true, recurses := true, named := ["unicode/utf8.first", "unicode/utf8.acceptRanges"], apart := false, laid := [("unicode/utf8.acceptRanges", laid_unicode_utf8_acceptRanges), ("unicode/utf8.first", laid_unicode_utf8_first)], narrowed := true }
def SnaponeDecodesUptoSaid : Prop := snaponeDecodesUptoRow.holds Tryd.pinned (OpenSpec.upto snaponeDecodesSpec)

/-- 'changeoverlaw27.SnaptwoGets', WHERE WHAT IT READS IS OF BULK AT MOST 1048576: true; the input reads as it did. -/
def snaptwoGetsUptoRow : OpenClaim := { program := "ytalpmbeddldfoaadoor", sum := "285434b32fbf96413f7fa7541186a13ccb425a2d8ff8e63e2d916d0afe5d05e8", func := "changeover/changeoverlaw27.SnaptwoGets", spec := "snaptwoGets", unfollowed := true, recurses := true, named := ["unicode/utf8.first", "unicode/utf8.acceptRanges"], apart := false, laid := [("unicode/utf8.acceptRanges", laid_unicode_utf8_acceptRanges), ("unicode/utf8.first", laid_unicode_utf8_first)], narrowed := true }
def SnaptwoGetsUptoSaid : Prop := snaptwoGetsUptoRow.holds Tryd.pinned (OpenSpec.upto snaptwoGetsSpec)

/-- 'changeoverlaw27.SnaptwoMigrates', WHERE WHAT IT READS IS OF BULK AT MOST 1048576: true; the input reads as it did. -/
def snaptwoMigratesUptoRow : OpenClaim := { program := "ytalpmbeddldfoaadoor", sum := "285434b32fbf96413f7fa7541186a13ccb425a2d8ff8e63e2d916d0afe5d05e8", func := "changeover/changeoverlaw27.SnaptwoMigrates", spec := "snaptwoMigrates", unfollowed := true, recurses := true, named := ["unicode/utf8.first", "unicode/utf8.acceptRanges"], apart := false, laid := [("unicode/utf8.acceptRanges", laid_unicode_utf8_acceptRanges), ("unicode/utf8.first", laid_unicode_utf8_first)], narrowed := true }
def SnaptwoMigratesUptoSaid : Prop := snaptwoMigratesUptoRow.holds Tryd.pinned (OpenSpec.upto snaptwoMigratesSpec)

/-- 'changeoverlaw27.SnaptwoPuts', WHERE WHAT IT READS IS OF BULK AT MOST 1048576: true; the input reads as it did. -/
def snaptwoPutsUptoRow : OpenClaim := { program := "ytalpmbeddldfoaadoor", sum := "285434b32fbf96413f7fa7541186a13ccb425a2d8ff8e63e2d916d0afe5d05e8", func := "changeover/changeoverlaw27.SnaptwoPuts", spec := "snaptwoPuts", unfollowed := true, recurses := true, named := ["unicode/utf8.first", "unicode/utf8.acceptRanges"], apart := false, laid := [("unicode/utf8.acceptRanges", laid_unicode_utf8_acceptRanges), ("unicode/utf8.first", laid_unicode_utf8_first)], narrowed := true }
def SnaptwoPutsUptoSaid : Prop := snaptwoPutsUptoRow.holds Tryd.pinned (OpenSpec.upto snaptwoPutsSpec)

end Rows
end Go.Proofs.YtalpmbeddldfoaaDoor
