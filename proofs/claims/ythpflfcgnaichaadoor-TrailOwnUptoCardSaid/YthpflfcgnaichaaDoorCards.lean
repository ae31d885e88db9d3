/-
  DERIVED. GIVEN WITH THE SEED: THE CARDS: each row of YthpflfcgnaichaaDoorRows.lean that lists a variable, with what it lists TIED to the program's text (the seventh form; the later family's looks); each row that meets fmt, with fmt's text TOLD by the authors' own Lean function (tested against real Go, not proved from fmt's source: count such statements apart). THE CARD IS WHAT COUNTS. Prove the row's statement (the work); the ties are given (YthpflfcgnaichaaDoorTie.lean); close each card by the builder's one call (the guide's Derived/Test/ToyasCard.lean, 'card_holds'). Laid BY PROGRAM, IN A SANDBOX (cutbox-door.mjs). By AI agents, Wed Nov 11 2026. No macro, syntax, notation, axiom, sorry.
-/
import Derived.Test.YthpflfcgnaichaaDoorRows
import GoSem.ClaimSeven
namespace Go.Proofs.YthpflfcgnaichaaDoor
namespace Rows

/-- THE TIED CARD OF 'turnpikelaw27.TrailOrder'. -/
def trailOrderCard : Claim7 := { stood := { row := trailOrderRow, standIns := [], harness := (true, "5fbdaacb4e9431049ae4381ded850ccba5522c585cc2976cf585b634065a66e8"), looks := true }, kinds := [], alts := [], laidByText := true, laidKinds := [.data, .data, .data], laidTests := true, laidLooks := .later }
def TrailOrderCardSaid : Prop := Claim7.holds Tryd.pinned (.plain (OpenSpec.ofChange trailOrderSpec)) trailOrderCard

/-- THE TIED CARD OF 'turnpikelaw27.TrailScripts'. -/
def trailScriptsCard : Claim7 := { stood := { row := trailScriptsRow, standIns := [], harness := (true, "5fbdaacb4e9431049ae4381ded850ccba5522c585cc2976cf585b634065a66e8"), looks := true }, kinds := [], alts := [], laidByText := true, laidKinds := [.data, .data, .data], laidTests := true, laidLooks := .later }
def TrailScriptsCardSaid : Prop := Claim7.holds Tryd.pinned (.plain (OpenSpec.ofChange trailScriptsSpec)) trailScriptsCard

/-- THE TIED CARD OF 'turnpikelaw27.TrailAgrees'. -/
def trailAgreesCard : Claim7 := { stood := { row := trailAgreesRow, standIns := [], harness := (true, "5fbdaacb4e9431049ae4381ded850ccba5522c585cc2976cf585b634065a66e8"), looks := true }, kinds := [], alts := [], laidByText := true, laidKinds := [.data, .data, .data], laidTests := true, laidLooks := .later }
def TrailAgreesCardSaid : Prop := Claim7.holds Tryd.pinned (.plain (OpenSpec.ofChange trailAgreesSpec)) trailAgreesCard

/-- THE TIED CARD OF 'turnpikelaw27.TrailLines'. -/
def trailLinesCard : Claim7 := { stood := { row := trailLinesRow, standIns := [], harness := (true, "5fbdaacb4e9431049ae4381ded850ccba5522c585cc2976cf585b634065a66e8"), looks := true }, kinds := [], alts := [], laidByText := true, laidKinds := [.data, .data, .data, .data, .sentinel, .sentinel, .pinned], laidTests := true, laidLooks := .later }
def TrailLinesCardSaid : Prop := Claim7.holds Tryd.pinned (.plain (OpenSpec.ofChange trailLinesSpec)) trailLinesCard

/-- THE TIED CARD OF 'turnpikelaw27.TrailBack'. -/
def trailBackCard : Claim7 := { stood := { row := trailBackRow, standIns := [], harness := (true, "5fbdaacb4e9431049ae4381ded850ccba5522c585cc2976cf585b634065a66e8"), looks := true }, kinds := [], alts := [], laidByText := true, laidKinds := [.data, .data, .data, .data, .sentinel, .sentinel, .pinned], laidTests := true, laidLooks := .later }
def TrailBackCardSaid : Prop := Claim7.holds Tryd.pinned (.plain (OpenSpec.ofChange trailBackSpec)) trailBackCard

/-- THE TIED CARD OF 'turnpikelaw27.TrailOwn'. -/
def trailOwnCard : Claim7 := { stood := { row := trailOwnRow, standIns := [], harness := (true, "5fbdaacb4e9431049ae4381ded850ccba5522c585cc2976cf585b634065a66e8"), looks := true }, kinds := [], alts := [], laidByText := true, laidKinds := [.data, .data, .data, .data, .sentinel, .sentinel, .pinned], laidTests := true, laidLooks := .later }
def TrailOwnCardSaid : Prop := Claim7.holds Tryd.pinned (.plain (OpenSpec.ofChange trailOwnSpec)) trailOwnCard

/-- THE SECOND FORM's CARD OF 'turnpikelaw27.TrailOrder'. -/
def trailOrderUptoCard : Claim7 := { stood := { row := trailOrderUptoRow, standIns := [], harness := (true, "5fbdaacb4e9431049ae4381ded850ccba5522c585cc2976cf585b634065a66e8"), looks := true }, kinds := [], alts := [], laidByText := true, laidKinds := [.data, .data, .data], laidTests := true, laidLooks := .later }
def TrailOrderUptoCardSaid : Prop := Claim7.holds Tryd.pinned (.plain (OpenSpec.upto trailOrderSpec)) trailOrderUptoCard

/-- THE SECOND FORM's CARD OF 'turnpikelaw27.TrailScripts'. -/
def trailScriptsUptoCard : Claim7 := { stood := { row := trailScriptsUptoRow, standIns := [], harness := (true, "5fbdaacb4e9431049ae4381ded850ccba5522c585cc2976cf585b634065a66e8"), looks := true }, kinds := [], alts := [], laidByText := true, laidKinds := [.data, .data, .data], laidTests := true, laidLooks := .later }
def TrailScriptsUptoCardSaid : Prop := Claim7.holds Tryd.pinned (.plain (OpenSpec.upto trailScriptsSpec)) trailScriptsUptoCard

/-- THE SECOND FORM's CARD OF 'turnpikelaw27.TrailAgrees'. -/
def trailAgreesUptoCard : Claim7 := { stood := { row := trailAgreesUptoRow, standIns := [], harness := (true, "5fbdaacb4e9431049ae4381ded850ccba5522c585cc2976cf585b634065a66e8"), looks := true }, kinds := [], alts := [], laidByText := true, laidKinds := [.data, .data, .data], laidTests := true, laidLooks := .later }
def TrailAgreesUptoCardSaid : Prop := Claim7.holds Tryd.pinned (.plain (OpenSpec.upto trailAgreesSpec)) trailAgreesUptoCard

/-- THE SECOND FORM's CARD OF 'turnpikelaw27.TrailLines'. -/
def trailLinesUptoCard : Claim7 := { stood := { row := trailLinesUptoRow, standIns := [], harness := (true, "5fbdaacb4e9431049ae4381ded850ccba5522c585cc2976cf585b634065a66e8"), looks := true }, kinds := [], alts := [], laidByText := true, laidKinds := [.data, .data, .data, .data, .sentinel, .sentinel, .pinned], laidTests := true, laidLooks := .later }
def TrailLinesUptoCardSaid : Prop := Claim7.holds Tryd.pinned (.plain (OpenSpec.upto trailLinesSpec)) trailLinesUptoCard

/-- THE SECOND FORM's CARD OF 'turnpikelaw27.TrailBack'. -/
def trailBackUptoCard : Claim7 := { stood := { row := trailBackUptoRow, standIns := [], harness := (true, "5fbdaacb4e9431049ae4381ded850ccba5522c585cc2976cf585b634065a66e8"), looks := true }, kinds := [], alts := [], laidByText := true, laidKinds := [.data, .data, .data, .data, .sentinel, .sentinel, .pinned], laidTests := true, laidLooks := .later }
def TrailBackUptoCardSaid : Prop := Claim7.holds Tryd.pinned (.plain (OpenSpec.upto trailBackSpec)) trailBackUptoCard

/-- THE SECOND FORM's CARD OF 'turnpikelaw27.TrailOwn'. -/
def trailOwnUptoCard : Claim7 := { stood := { row := trailOwnUptoRow, standIns := [], harness := (true, "5fbdaacb4e9431049ae4381ded850ccba5522c585cc2976cf585b634065a66e8"), looks := true }, kinds := [], alts := [], laidByText := true, laidKinds := [.data, .data, .data, .data, .sentinel, .sentinel, .pinned], laidTests := true, laidLooks := .later }
def TrailOwnUptoCardSaid : Prop := Claim7.holds Tryd.pinned (.plain (OpenSpec.upto trailOwnSpec)) trailOwnUptoCard
end Rows
end Go.Proofs.YthpflfcgnaichaaDoor
