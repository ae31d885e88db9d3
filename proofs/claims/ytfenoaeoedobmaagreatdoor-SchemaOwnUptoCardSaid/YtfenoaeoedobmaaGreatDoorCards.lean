/-
  DERIVED. GIVEN WITH THE SEED: THE CARDS: each row of YtfenoaeoedobmaaGreatDoorRows.lean that lists a variable, with what it lists TIED to the program's text (the seventh form; the later family's looks); each row that meets fmt, with fmt's text TOLD by the authors' own Lean function (tested against real Go, not proved from fmt's source: count such statements apart). THE CARD IS WHAT COUNTS. Prove the row's statement (the work); the ties are given (YtfenoaeoedobmaaGreatDoorTie.lean); close each card by the builder's one call (the guide's Derived/Test/ToyasCard.lean, 'card_holds'). Laid BY PROGRAM, IN A SANDBOX (cutbox-door.mjs). By AI agents, Wed Nov 11 2026. No macro, syntax, notation, axiom, sorry.
-/
import Derived.Test.YtfenoaeoedobmaaGreatDoorRows
import GoSem.ClaimSeven
namespace Go.Proofs.YtfenoaeoedobmaaGreatDoor
namespace Rows

/-- THE TIED CARD OF 'turnpikelaw12.SchemaReads'. -/
def schemaReadsCard : Claim7 := { stood := { row := schemaReadsRow, standIns := [], harness := (true, "c51e0cffdb7c4f3ac4e5e47ef4d42da2d2fb7a8a461ab710508c630653d166b4"), looks := true }, kinds := [], alts := [], laidByText := true, laidKinds := [.data, .data, .data, .sentinel, .sentinel], laidTests := true, laidLooks := .later }
def SchemaReadsCardSaid : Prop := Claim7.holds Tryz.pinned (.plain (OpenSpec.ofChange schemaReadsSpec)) schemaReadsCard

/-- THE TIED CARD OF 'turnpikelaw12.SchemaBack'. -/
def schemaBackCard : Claim7 := { stood := { row := schemaBackRow, standIns := [], harness := (true, "c51e0cffdb7c4f3ac4e5e47ef4d42da2d2fb7a8a461ab710508c630653d166b4"), looks := true }, kinds := [], alts := [], laidByText := true, laidKinds := [.data, .data, .data, .sentinel, .sentinel], laidTests := true, laidLooks := .later }
def SchemaBackCardSaid : Prop := Claim7.holds Tryz.pinned (.plain (OpenSpec.ofChange schemaBackSpec)) schemaBackCard

/-- THE TIED CARD OF 'turnpikelaw12.SchemaAlone'. -/
def schemaAloneCard : Claim7 := { stood := { row := schemaAloneRow, standIns := [], harness := (true, "c51e0cffdb7c4f3ac4e5e47ef4d42da2d2fb7a8a461ab710508c630653d166b4"), looks := true }, kinds := [], alts := [], laidByText := true, laidKinds := [.data, .data, .data, .sentinel, .sentinel], laidTests := true, laidLooks := .later }
def SchemaAloneCardSaid : Prop := Claim7.holds Tryz.pinned (.plain (OpenSpec.ofChange schemaAloneSpec)) schemaAloneCard

/-- THE TIED CARD OF 'turnpikelaw12.SchemaOne'. -/
def schemaOneCard : Claim7 := { stood := { row := schemaOneRow, standIns := [], harness := (true, "c51e0cffdb7c4f3ac4e5e47ef4d42da2d2fb7a8a461ab710508c630653d166b4"), looks := true }, kinds := [], alts := [], laidByText := true, laidKinds := [.data, .data, .data, .sentinel, .sentinel], laidTests := true, laidLooks := .later }
def SchemaOneCardSaid : Prop := Claim7.holds Tryz.pinned (.plain (OpenSpec.ofChange schemaOneSpec)) schemaOneCard

/-- THE TIED CARD OF 'turnpikelaw12.SchemaOwn'. -/
def schemaOwnCard : Claim7 := { stood := { row := schemaOwnRow, standIns := [], harness := (true, "c51e0cffdb7c4f3ac4e5e47ef4d42da2d2fb7a8a461ab710508c630653d166b4"), looks := true }, kinds := [], alts := [], laidByText := true, laidKinds := [.data, .data, .data, .sentinel, .sentinel], laidTests := true, laidLooks := .later }
def SchemaOwnCardSaid : Prop := Claim7.holds Tryz.pinned (.plain (OpenSpec.ofChange schemaOwnSpec)) schemaOwnCard

/-- THE SECOND FORM's CARD OF 'turnpikelaw12.SchemaReads'. -/
def schemaReadsUptoCard : Claim7 := { stood := { row := schemaReadsUptoRow, standIns := [], harness := (true, "c51e0cffdb7c4f3ac4e5e47ef4d42da2d2fb7a8a461ab710508c630653d166b4"), looks := true }, kinds := [], alts := [], laidByText := true, laidKinds := [.data, .data, .data, .sentinel, .sentinel], laidTests := true, laidLooks := .later }
def SchemaReadsUptoCardSaid : Prop := Claim7.holds Tryz.pinned (.plain (OpenSpec.upto schemaReadsSpec)) schemaReadsUptoCard

/-- THE SECOND FORM's CARD OF 'turnpikelaw12.SchemaBack'. -/
def schemaBackUptoCard : Claim7 := { stood := { row := schemaBackUptoRow, standIns := [], harness := (true, "c51e0cffdb7c4f3ac4e5e47ef4d42da2d2fb7a8a461ab710508c630653d166b4"), looks := true }, kinds := [], alts := [], laidByText := true, laidKinds := [.data, .data, .data, .sentinel, .sentinel], laidTests := true, laidLooks := .later }
def SchemaBackUptoCardSaid : Prop := Claim7.holds Tryz.pinned (.plain (OpenSpec.upto schemaBackSpec)) schemaBackUptoCard

/-- THE SECOND FORM's CARD OF 'turnpikelaw12.SchemaAlone'. -/
def schemaAloneUptoCard : Claim7 := { stood := { row := schemaAloneUptoRow, standIns := [], harness := (true, "c51e0cffdb7c4f3ac4e5e47ef4d42da2d2fb7a8a461ab710508c630653d166b4"), looks := true }, kinds := [], alts := [], laidByText := true, laidKinds := [.data, .data, .data, .sentinel, .sentinel], laidTests := true, laidLooks := .later }
def SchemaAloneUptoCardSaid : Prop := Claim7.holds Tryz.pinned (.plain (OpenSpec.upto schemaAloneSpec)) schemaAloneUptoCard

/-- THE SECOND FORM's CARD OF 'turnpikelaw12.SchemaOne'. -/
def schemaOneUptoCard : Claim7 := { stood := { row := schemaOneUptoRow, standIns := [], harness := (true, "c51e0cffdb7c4f3ac4e5e47ef4d42da2d2fb7a8a461ab710508c630653d166b4"), looks := true }, kinds := [], alts := [], laidByText := true, laidKinds := [.data, .data, .data, .sentinel, .sentinel], laidTests := true, laidLooks := .later }
def SchemaOneUptoCardSaid : Prop := Claim7.holds Tryz.pinned (.plain (OpenSpec.upto schemaOneSpec)) schemaOneUptoCard

/-- THE SECOND FORM's CARD OF 'turnpikelaw12.SchemaOwn'. -/
def schemaOwnUptoCard : Claim7 := { stood := { row := schemaOwnUptoRow, standIns := [], harness := (true, "c51e0cffdb7c4f3ac4e5e47ef4d42da2d2fb7a8a461ab710508c630653d166b4"), looks := true }, kinds := [], alts := [], laidByText := true, laidKinds := [.data, .data, .data, .sentinel, .sentinel], laidTests := true, laidLooks := .later }
def SchemaOwnUptoCardSaid : Prop := Claim7.holds Tryz.pinned (.plain (OpenSpec.upto schemaOwnSpec)) schemaOwnUptoCard
end Rows
end Go.Proofs.YtfenoaeoedobmaaGreatDoor
