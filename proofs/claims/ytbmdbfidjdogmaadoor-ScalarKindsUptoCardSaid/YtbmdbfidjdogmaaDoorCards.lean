/-
  DERIVED. GIVEN WITH THE SEED: THE CARDS: each row of YtbmdbfidjdogmaaDoorRows.lean that lists a variable, with what it lists TIED to the program's text (the seventh form; the later family's looks); each row that meets fmt, with fmt's text TOLD by the authors' own Lean function (tested against real Go, not proved from fmt's source: count such statements apart). THE CARD IS WHAT COUNTS. Prove the row's statement (the work); the ties are given (YtbmdbfidjdogmaaDoorTie.lean); close each card by the builder's one call (the guide's Derived/Test/ToyasCard.lean, 'card_holds'). Laid BY PROGRAM, IN A SANDBOX (cutbox-door.mjs). By AI agents, Wed Nov 11 2026. No macro, syntax, notation, axiom, sorry.
-/
import Derived.Test.YtbmdbfidjdogmaaDoorRows
import GoSem.ClaimSeven
namespace Go.Proofs.YtbmdbfidjdogmaaDoor
namespace Rows

/-- THE TIED CARD OF 'turnpikelaw11.ScalarReads'. -/
def scalarReadsCard : Claim7 := { stood := { row := scalarReadsRow, standIns := [], harness := (true, "74ace5d23b4a4ca71727a05734c91fbe103efad9a709a62c35756d7d2460300d"), looks := true }, kinds := [], alts := [], laidByText := true, laidKinds := [.data, .data, .data, .sentinel, .sentinel], laidTests := true, laidLooks := .later }
def ScalarReadsCardSaid : Prop := Claim7.holds Tryd.pinned (.plain (OpenSpec.ofChange scalarReadsSpec)) scalarReadsCard

/-- THE TIED CARD OF 'turnpikelaw11.ScalarRises'. -/
def scalarRisesCard : Claim7 := { stood := { row := scalarRisesRow, standIns := [], harness := (true, "74ace5d23b4a4ca71727a05734c91fbe103efad9a709a62c35756d7d2460300d"), looks := true }, kinds := [], alts := [], laidByText := true, laidKinds := [.data, .data, .data, .sentinel, .sentinel], laidTests := true, laidLooks := .later }
def ScalarRisesCardSaid : Prop := Claim7.holds Tryd.pinned (.plain (OpenSpec.ofChange scalarRisesSpec)) scalarRisesCard

/-- THE TIED CARD OF 'turnpikelaw11.ScalarKinds'. -/
def scalarKindsCard : Claim7 := { stood := { row := scalarKindsRow, standIns := [], harness := (true, "74ace5d23b4a4ca71727a05734c91fbe103efad9a709a62c35756d7d2460300d"), looks := true }, kinds := [], alts := [], laidByText := true, laidKinds := [.data, .data, .data, .sentinel, .sentinel], laidTests := true, laidLooks := .later }
def ScalarKindsCardSaid : Prop := Claim7.holds Tryd.pinned (.plain (OpenSpec.ofChange scalarKindsSpec)) scalarKindsCard

/-- THE TIED CARD OF 'turnpikelaw11.ScalarPrints'. -/
def scalarPrintsCard : Claim7 := { stood := { row := scalarPrintsRow, standIns := [], harness := (true, "74ace5d23b4a4ca71727a05734c91fbe103efad9a709a62c35756d7d2460300d"), looks := true }, kinds := [], alts := [], laidByText := true, laidKinds := [.data, .data, .data, .sentinel, .sentinel], laidTests := true, laidLooks := .later }
def ScalarPrintsCardSaid : Prop := Claim7.holds Tryd.pinned (.plain (OpenSpec.ofChange scalarPrintsSpec)) scalarPrintsCard

/-- THE TIED CARD OF 'turnpikelaw11.ScalarBack'. -/
def scalarBackCard : Claim7 := { stood := { row := scalarBackRow, standIns := [], harness := (true, "74ace5d23b4a4ca71727a05734c91fbe103efad9a709a62c35756d7d2460300d"), looks := true }, kinds := [], alts := [], laidByText := true, laidKinds := [.data, .data, .data, .sentinel, .sentinel], laidTests := true, laidLooks := .later }
def ScalarBackCardSaid : Prop := Claim7.holds Tryd.pinned (.plain (OpenSpec.ofChange scalarBackSpec)) scalarBackCard

/-- THE SECOND FORM's CARD OF 'turnpikelaw11.ScalarReads'. -/
def scalarReadsUptoCard : Claim7 := { stood := { row := scalarReadsUptoRow, standIns := [], harness := (true, "74ace5d23b4a4ca71727a05734c91fbe103efad9a709a62c35756d7d2460300d"), looks := true }, kinds := [], alts := [], laidByText := true, laidKinds := [.data, .data, .data, .sentinel, .sentinel], laidTests := true, laidLooks := .later }
def ScalarReadsUptoCardSaid : Prop := Claim7.holds Tryd.pinned (.plain (OpenSpec.upto scalarReadsSpec)) scalarReadsUptoCard

/-- THE SECOND FORM's CARD OF 'turnpikelaw11.ScalarRises'. -/
def scalarRisesUptoCard : Claim7 := { stood := { row := scalarRisesUptoRow, standIns := [], harness := (true, "74ace5d23b4a4ca71727a05734c91fbe103efad9a709a62c35756d7d2460300d"), looks := true }, kinds := [], alts := [], laidByText := true, laidKinds := [.data, .data, .data, .sentinel, .sentinel], laidTests := true, laidLooks := .later }
def ScalarRisesUptoCardSaid : Prop := Claim7.holds Tryd.pinned (.plain (OpenSpec.upto scalarRisesSpec)) scalarRisesUptoCard

/-- THE SECOND FORM's CARD OF 'turnpikelaw11.ScalarKinds'. -/
def scalarKindsUptoCard : Claim7 := { stood := { row := scalarKindsUptoRow, standIns := [], harness := (true, "74ace5d23b4a4ca71727a05734c91fbe103efad9a709a62c35756d7d2460300d"), looks := true }, kinds := [], alts := [], laidByText := true, laidKinds := [.data, .data, .data, .sentinel, .sentinel], laidTests := true, laidLooks := .later }
def ScalarKindsUptoCardSaid : Prop := Claim7.holds Tryd.pinned (.plain (OpenSpec.upto scalarKindsSpec)) scalarKindsUptoCard

/-- THE SECOND FORM's CARD OF 'turnpikelaw11.ScalarPrints'. -/
def scalarPrintsUptoCard : Claim7 := { stood := { row := scalarPrintsUptoRow, standIns := [], harness := (true, "74ace5d23b4a4ca71727a05734c91fbe103efad9a709a62c35756d7d2460300d"), looks := true }, kinds := [], alts := [], laidByText := true, laidKinds := [.data, .data, .data, .sentinel, .sentinel], laidTests := true, laidLooks := .later }
def ScalarPrintsUptoCardSaid : Prop := Claim7.holds Tryd.pinned (.plain (OpenSpec.upto scalarPrintsSpec)) scalarPrintsUptoCard

/-- THE SECOND FORM's CARD OF 'turnpikelaw11.ScalarBack'. -/
def scalarBackUptoCard : Claim7 := { stood := { row := scalarBackUptoRow, standIns := [], harness := (true, "74ace5d23b4a4ca71727a05734c91fbe103efad9a709a62c35756d7d2460300d"), looks := true }, kinds := [], alts := [], laidByText := true, laidKinds := [.data, .data, .data, .sentinel, .sentinel], laidTests := true, laidLooks := .later }
def ScalarBackUptoCardSaid : Prop := Claim7.holds Tryd.pinned (.plain (OpenSpec.upto scalarBackSpec)) scalarBackUptoCard
end Rows
end Go.Proofs.YtbmdbfidjdogmaaDoor
