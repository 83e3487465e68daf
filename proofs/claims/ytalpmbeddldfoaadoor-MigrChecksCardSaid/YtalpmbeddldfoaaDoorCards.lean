/-
  DERIVED. GIVEN WITH THE SEED: THE CARDS: each row of YtalpmbeddldfoaaDoorRows.lean that lists a variable, with what it lists TIED to the program's text (the seventh form; the later family's looks); each row that meets fmt, with fmt's text TOLD by the authors' own Lean function (tested against real Go, not proved from fmt's source: count such statements apart). THE CARD IS WHAT COUNTS. Prove the row's statement (the work); the ties are given (YtalpmbeddldfoaaDoorTie.lean); close each card by the builder's one call (the guide's Derived/Test/ToyasCard.lean, 'card_holds'). Laid BY PROGRAM, IN A SANDBOX (cutbox-door.mjs). By AI agents, Wed Nov 11 2026. No macro, syntax, notation, axiom, sorry.
-/
import Derived.Test.YtalpmbeddldfoaaDoorRows
import GoSem.ClaimSeven
namespace Go.Proofs.YtalpmbeddldfoaaDoor
namespace Rows

/-- THE TIED CARD OF 'changeoverlaw05.RunesTexts'. -/
def runesTextsCard : Claim7 := { stood := { row := runesTextsRow, standIns := [], harness := (true, "f935e125724c455b4c270d3032d630cee00e771d71ef68531cce4013c6ec360c"), looks := false }, kinds := [], alts := [], laidByText := true, laidKinds := [.data, .pinned], laidTests := true, laidLooks := .later }
def RunesTextsCardSaid : Prop := Claim7.holds Tryd.pinned (.plain (OpenSpec.ofChange runesTextsSpec)) runesTextsCard

/-- THE TIED CARD OF 'changeoverlaw05.RunesPlain'. -/
def runesPlainCard : Claim7 := { stood := { row := runesPlainRow, standIns := [], harness := (true, "f935e125724c455b4c270d3032d630cee00e771d71ef68531cce4013c6ec360c"), looks := false }, kinds := [], alts := [], laidByText := true, laidKinds := [.data, .pinned], laidTests := true, laidLooks := .later }
def RunesPlainCardSaid : Prop := Claim7.holds Tryd.pinned (.plain (OpenSpec.ofChange runesPlainSpec)) runesPlainCard

/-- THE TIED CARD OF 'changeoverlaw05.RunesCuts'. -/
def runesCutsCard : Claim7 := { stood := { row := runesCutsRow, standIns := [], harness := (true, "f935e125724c455b4c270d3032d630cee00e771d71ef68531cce4013c6ec360c"), looks := false }, kinds := [], alts := [], laidByText := true, laidKinds := [.data, .pinned], laidTests := true, laidLooks := .later }
def RunesCutsCardSaid : Prop := Claim7.holds Tryd.pinned (.plain (OpenSpec.ofChange runesCutsSpec)) runesCutsCard

/-- THE TIED CARD OF 'changeoverlaw05.RunesLower'. -/
def runesLowerCard : Claim7 := { stood := { row := runesLowerRow, standIns := [], harness := (true, "f935e125724c455b4c270d3032d630cee00e771d71ef68531cce4013c6ec360c"), looks := false }, kinds := [], alts := [], laidByText := true, laidKinds := [.data, .pinned], laidTests := true, laidLooks := .later }
def RunesLowerCardSaid : Prop := Claim7.holds Tryd.pinned (.plain (OpenSpec.ofChange runesLowerSpec)) runesLowerCard

/-- THE TIED CARD OF 'changeoverlaw25.MigrUps'. -/
def migrUpsCard : Claim7 := { stood := { row := migrUpsRow, standIns := [], harness := (true, "f935e125724c455b4c270d3032d630cee00e771d71ef68531cce4013c6ec360c"), looks := false }, kinds := [], alts := [], laidByText := true, laidKinds := [.data, .pinned], laidTests := true, laidLooks := .later }
def MigrUpsCardSaid : Prop := Claim7.holds Tryd.pinned (.plain (OpenSpec.ofChange migrUpsSpec)) migrUpsCard

/-- THE TIED CARD OF 'changeoverlaw25.MigrChecks'. -/
def migrChecksCard : Claim7 := { stood := { row := migrChecksRow, standIns := [], harness := (true, "f935e125724c455b4c270d3032d630cee00e771d71ef68531cce4013c6ec360c"), looks := false }, kinds := [], alts := [], laidByText := true, laidKinds := [.data, .pinned], laidTests := true, laidLooks := .later }
def MigrChecksCardSaid : Prop := Claim7.holds Tryd.pinned (.plain (OpenSpec.ofChange migrChecksSpec)) migrChecksCard

/-- THE TIED CARD OF 'changeoverlaw22.SessChecks'. -/
def sessChecksCard : Claim7 := { stood := { row := sessChecksRow, standIns := [], harness := (true, "f935e125724c455b4c270d3032d630cee00e771d71ef68531cce4013c6ec360c"), looks := false }, kinds := [], alts := [], laidByText := true, laidKinds := [.data, .pinned], laidTests := true, laidLooks := .later }
def SessChecksCardSaid : Prop := Claim7.holds Tryd.pinned (.plain (OpenSpec.ofChange sessChecksSpec)) sessChecksCard

/-- THE TIED CARD OF 'changeoverlaw23.KvoneChecks'. -/
def kvoneChecksCard : Claim7 := { stood := { row := kvoneChecksRow, standIns := [], harness := (true, "f935e125724c455b4c270d3032d630cee00e771d71ef68531cce4013c6ec360c"), looks := false }, kinds := [], alts := [], laidByText := true, laidKinds := [.data, .pinned], laidTests := true, laidLooks := .later }
def KvoneChecksCardSaid : Prop := Claim7.holds Tryd.pinned (.plain (OpenSpec.ofChange kvoneChecksSpec)) kvoneChecksCard

/-- THE TIED CARD OF 'changeoverlaw24.KvtwoChecks'. -/
def kvtwoChecksCard : Claim7 := { stood := { row := kvtwoChecksRow, standIns := [], harness := (true, "f935e125724c455b4c270d3032d630cee00e771d71ef68531cce4013c6ec360c"), looks := false }, kinds := [], alts := [], laidByText := true, laidKinds := [.data, .pinned], laidTests := true, laidLooks := .later }
def KvtwoChecksCardSaid : Prop := Claim7.holds Tryd.pinned (.plain (OpenSpec.ofChange kvtwoChecksSpec)) kvtwoChecksCard

/-- THE TIED CARD OF 'changeoverlaw26.SnaponeEncodes'. -/
def snaponeEncodesCard : Claim7 := { stood := { row := snaponeEncodesRow, standIns := [], harness := (true, "f935e125724c455b4c270d3032d630cee00e771d71ef68531cce4013c6ec360c"), looks := false }, kinds := [], alts := [], laidByText := true, laidKinds := [.data, .pinned], laidTests := true, laidLooks := .later }
def SnaponeEncodesCardSaid : Prop := Claim7.holds Tryd.pinned (.plain (OpenSpec.ofChange snaponeEncodesSpec)) snaponeEncodesCard

/-- THE TIED CARD OF 'changeoverlaw26.SnaponeDecodes'. -/
def snaponeDecodesCard : Claim7 := { stood := { row := snaponeDecodesRow, standIns := [], harness := (true, "f935e125724c455b4c270d3032d630cee00e771d71ef68531cce4013c6ec360c"), looks := false }, kinds := [], alts := [], laidByText := true, laidKinds := [.data, .pinned], laidTests := true, laidLooks := .later }
def SnaponeDecodesCardSaid : Prop := Claim7.holds Tryd.pinned (.plain (OpenSpec.ofChange snaponeDecodesSpec)) snaponeDecodesCard

/-- THE TIED CARD OF 'changeoverlaw27.SnaptwoGets'. -/
def snaptwoGetsCard : Claim7 := { stood := { row := snaptwoGetsRow, standIns := [], harness := (true, "f935e125724c455b4c270d3032d630cee00e771d71ef68531cce4013c6ec360c"), looks := false }, kinds := [], alts := [], laidByText := true, laidKinds := [.data, .pinned], laidTests := true, laidLooks := .later }
def SnaptwoGetsCardSaid : Prop := Claim7.holds Tryd.pinned (.plain (OpenSpec.ofChange snaptwoGetsSpec)) snaptwoGetsCard

/-- THE TIED CARD OF 'changeoverlaw27.SnaptwoMigrates'. -/
def snaptwoMigratesCard : Claim7 := { stood := { row := snaptwoMigratesRow, standIns := [], harness := (true, "f935e125724c455b4c270d3032d630cee00e771d71ef68531cce4013c6ec360c"), looks := false }, kinds := [], alts := [], laidByText := true, laidKinds := [.data, .pinned], laidTests := true, laidLooks := .later }
def SnaptwoMigratesCardSaid : Prop := Claim7.holds Tryd.pinned (.plain (OpenSpec.ofChange snaptwoMigratesSpec)) snaptwoMigratesCard

/-- THE TIED CARD OF 'changeoverlaw27.SnaptwoPuts'. -/
def snaptwoPutsCard : Claim7 := { stood := { row := snaptwoPutsRow, standIns := [], harness := (true, "f935e125724c455b4c270d3032d630cee00e771d71ef68531cce4013c6ec360c"), looks := false }, kinds := [], alts := [], laidByText := true, laidKinds := [.data, .pinned], laidTests := true, laidLooks := .later }
def SnaptwoPutsCardSaid : Prop := Claim7.holds Tryd.pinned (.plain (OpenSpec.ofChange snaptwoPutsSpec)) snaptwoPutsCard

/-- THE SECOND FORM's CARD OF 'changeoverlaw05.RunesTexts'. -/
def runesTextsUptoCard : Claim7 := { stood := { row := runesTextsUptoRow, standIns := [], harness := (true, "f935e125724c455b4c270d3032d630cee00e771d71ef68531cce4013c6ec360c"), looks := false }, kinds := [], alts := [], laidByText := true, laidKinds := [.data, .pinned], laidTests := true, laidLooks := .later }
def RunesTextsUptoCardSaid : Prop := Claim7.holds Tryd.pinned (.plain (OpenSpec.upto runesTextsSpec)) runesTextsUptoCard

/-- THE SECOND FORM's CARD OF 'changeoverlaw05.RunesPlain'. -/
def runesPlainUptoCard : Claim7 := { stood := { row := runesPlainUptoRow, standIns := [], harness := (true, "f935e125724c455b4c270d3032d630cee00e771d71ef68531cce4013c6ec360c"), looks := false }, kinds := [], alts := [], laidByText := true, laidKinds := [.data, .pinned], laidTests := true, laidLooks := .later }
def RunesPlainUptoCardSaid : Prop := Claim7.holds Tryd.pinned (.plain (OpenSpec.upto runesPlainSpec)) runesPlainUptoCard

/-- THE SECOND FORM's CARD OF 'changeoverlaw05.RunesCuts'. -/
def runesCutsUptoCard : Claim7 := { stood := { row := runesCutsUptoRow, standIns := [], harness := (true, "f935e125724c455b4c270d3032d630cee00e771d71ef68531cce4013c6ec360c"), looks := false }, kinds := [], alts := [], laidByText := true, laidKinds := [.data, .pinned], laidTests := true, laidLooks := .later }
def RunesCutsUptoCardSaid : Prop := Claim7.holds Tryd.pinned (.plain (OpenSpec.upto runesCutsSpec)) runesCutsUptoCard

/-- THE SECOND FORM's CARD OF 'changeoverlaw05.RunesLower'. -/
def runesLowerUptoCard : Claim7 := { stood := { row := runesLowerUptoRow, standIns := [], harness := (true, "f935e125724c455b4c270d3032d630cee00e771d71ef68531cce4013c6ec360c"), looks := false }, kinds := [], alts := [], laidByText := true, laidKinds := [.data, .pinned], laidTests := true, laidLooks := .later }
def RunesLowerUptoCardSaid : Prop := Claim7.holds Tryd.pinned (.plain (OpenSpec.upto runesLowerSpec)) runesLowerUptoCard

/-- THE SECOND FORM's CARD OF 'changeoverlaw25.MigrUps'. -/
def migrUpsUptoCard : Claim7 := { stood := { row := migrUpsUptoRow, standIns := [], harness := (true, "f935e125724c455b4c270d3032d630cee00e771d71ef68531cce4013c6ec360c"), looks := false }, kinds := [], alts := [], laidByText := true, laidKinds := [.data, .pinned], laidTests := true, laidLooks := .later }
def MigrUpsUptoCardSaid : Prop := Claim7.holds Tryd.pinned (.plain (OpenSpec.upto migrUpsSpec)) migrUpsUptoCard

/-- THE SECOND FORM's CARD OF 'changeoverlaw25.MigrChecks'. -/
def migrChecksUptoCard : Claim7 := { stood := { row := migrChecksUptoRow, standIns := [], harness := (true, "f935e125724c455b4c270d3032d630cee00e771d71ef68531cce4013c6ec360c"), looks := false }, kinds := [], alts := [], laidByText := true, laidKinds := [.data, .pinned], laidTests := true, laidLooks := .later }
def MigrChecksUptoCardSaid : Prop := Claim7.holds Tryd.pinned (.plain (OpenSpec.upto migrChecksSpec)) migrChecksUptoCard

/-- THE SECOND FORM's CARD OF 'changeoverlaw22.SessChecks'. -/
def sessChecksUptoCard : Claim7 := { stood := { row := sessChecksUptoRow, standIns := [], harness := (true, "f935e125724c455b4c270d3032d630cee00e771d71ef68531cce4013c6ec360c"), looks := false }, kinds := [], alts := [], laidByText := true, laidKinds := [.data, .pinned], laidTests := true, laidLooks := .later }
def SessChecksUptoCardSaid : Prop := Claim7.holds Tryd.pinned (.plain (OpenSpec.upto sessChecksSpec)) sessChecksUptoCard

/-- THE SECOND FORM's CARD OF 'changeoverlaw23.KvoneChecks'. -/
def kvoneChecksUptoCard : Claim7 := { stood := { row := kvoneChecksUptoRow, standIns := [], harness := (true, "f935e125724c455b4c270d3032d630cee00e771d71ef68531cce4013c6ec360c"), looks := false }, kinds := [], alts := [], laidByText := true, laidKinds := [.data, .pinned], laidTests := true, laidLooks := .later }
def KvoneChecksUptoCardSaid : Prop := Claim7.holds Tryd.pinned (.plain (OpenSpec.upto kvoneChecksSpec)) kvoneChecksUptoCard

/-- THE SECOND FORM's CARD OF 'changeoverlaw24.KvtwoChecks'. -/
def kvtwoChecksUptoCard : Claim7 := { stood := { row := kvtwoChecksUptoRow, standIns := [], harness := (true, "f935e125724c455b4c270d3032d630cee00e771d71ef68531cce4013c6ec360c"), looks := false }, kinds := [], alts := [], laidByText := true, laidKinds := [.data, .pinned], laidTests := true, laidLooks := .later }
def KvtwoChecksUptoCardSaid : Prop := Claim7.holds Tryd.pinned (.plain (OpenSpec.upto kvtwoChecksSpec)) kvtwoChecksUptoCard

/-- THE SECOND FORM's CARD OF 'changeoverlaw26.SnaponeEncodes'. -/
def snaponeEncodesUptoCard : Claim7 := { stood := { row := snaponeEncodesUptoRow, standIns := [], harness := (true, "f935e125724c455b4c270d3032d630cee00e771d71ef68531cce4013c6ec360c"), looks := false }, kinds := [], alts := [], laidByText := true, laidKinds := [.data, .pinned], laidTests := true, laidLooks := .later }
def SnaponeEncodesUptoCardSaid : Prop := Claim7.holds Tryd.pinned (.plain (OpenSpec.upto snaponeEncodesSpec)) snaponeEncodesUptoCard

/-- THE SECOND FORM's CARD OF 'changeoverlaw26.SnaponeDecodes'. -/
def snaponeDecodesUptoCard : Claim7 := { stood := { row := snaponeDecodesUptoRow, standIns := [], harness := (true, "f935e125724c455b4c270d3032d630cee00e771d71ef68531cce4013c6ec360c"), looks := false }, kinds := [], alts := [], laidByText := true, laidKinds := [.data, .pinned], laidTests := true, laidLooks := .later }
def SnaponeDecodesUptoCardSaid : Prop := Claim7.holds Tryd.pinned (.plain (OpenSpec.upto snaponeDecodesSpec)) snaponeDecodesUptoCard

/-- THE SECOND FORM's CARD OF 'changeoverlaw27.SnaptwoGets'. -/
def snaptwoGetsUptoCard : Claim7 := { stood := { row := snaptwoGetsUptoRow, standIns := [], harness := (true, "f935e125724c455b4c270d3032d630cee00e771d71ef68531cce4013c6ec360c"), looks := false }, kinds := [], alts := [], laidByText := true, laidKinds := [.data, .pinned], laidTests := true, laidLooks := .later }
def SnaptwoGetsUptoCardSaid : Prop := Claim7.holds Tryd.pinned (.plain (OpenSpec.upto snaptwoGetsSpec)) snaptwoGetsUptoCard

/-- THE SECOND FORM's CARD OF 'changeoverlaw27.SnaptwoMigrates'. -/
def snaptwoMigratesUptoCard : Claim7 := { stood := { row := snaptwoMigratesUptoRow, standIns := [], harness := (true, "f935e125724c455b4c270d3032d630cee00e771d71ef68531cce4013c6ec360c"), looks := false }, kinds := [], alts := [], laidByText := true, laidKinds := [.data, .pinned], laidTests := true, laidLooks := .later }
def SnaptwoMigratesUptoCardSaid : Prop := Claim7.holds Tryd.pinned (.plain (OpenSpec.upto snaptwoMigratesSpec)) snaptwoMigratesUptoCard

/-- THE SECOND FORM's CARD OF 'changeoverlaw27.SnaptwoPuts'. -/
def snaptwoPutsUptoCard : Claim7 := { stood := { row := snaptwoPutsUptoRow, standIns := [], harness := (true, "f935e125724c455b4c270d3032d630cee00e771d71ef68531cce4013c6ec360c"), looks := false }, kinds := [], alts := [], laidByText := true, laidKinds := [.data, .pinned], laidTests := true, laidLooks := .later }
def SnaptwoPutsUptoCardSaid : Prop := Claim7.holds Tryd.pinned (.plain (OpenSpec.upto snaptwoPutsSpec)) snaptwoPutsUptoCard
end Rows
end Go.Proofs.YtalpmbeddldfoaaDoor
