/-
  DERIVED. GIVEN WITH THE SEED: THE CARDS: each row of YtofjdbmcloemnaaGreatDoorRows.lean that lists a variable, with what it lists TIED to the program's text (the seventh form; the later family's looks); each row that meets fmt, with fmt's text TOLD by the authors' own Lean function (tested against real Go, not proved from fmt's source: count such statements apart). THE CARD IS WHAT COUNTS. Prove the row's statement (the work); the ties are given (YtofjdbmcloemnaaGreatDoorTie.lean); close each card by the builder's one call (the guide's Derived/Test/ToyasCard.lean, 'card_holds'). Laid BY PROGRAM, IN A SANDBOX (cutbox-door.mjs). By AI agents, Wed Nov 11 2026. No macro, syntax, notation, axiom, sorry.
-/
import Derived.Test.YtofjdbmcloemnaaGreatDoorRows
import GoSem.ClaimSeven
namespace Go.Proofs.YtofjdbmcloemnaaGreatDoor
namespace Rows

/-- THE TIED CARD OF 'backflushlaw11.NamesResolveSpec'. -/
def namesResolveSpecCard : Claim7 := { stood := { row := namesResolveSpecRow, standIns := [], harness := (true, "b9fee9db0ad886cd0c5e95f6ae544c30c0fde78bf580d3669a141dadd946c0b9"), looks := true }, kinds := [], alts := [], laidByText := true, laidKinds := [.data], laidTests := true, laidLooks := .later }
def NamesResolveSpecCardSaid : Prop := Claim7.holds Tryz.pinned (.plain (OpenSpec.ofChange namesResolveSpecSpec)) namesResolveSpecCard

/-- THE TIED CARD OF 'backflushlaw11.NamesMeans'. -/
def namesMeansCard : Claim7 := { stood := { row := namesMeansRow, standIns := [], harness := (true, "b9fee9db0ad886cd0c5e95f6ae544c30c0fde78bf580d3669a141dadd946c0b9"), looks := true }, kinds := [], alts := [], laidByText := true, laidKinds := [.data], laidTests := true, laidLooks := .later }
def NamesMeansCardSaid : Prop := Claim7.holds Tryz.pinned (.plain (OpenSpec.ofChange namesMeansSpec)) namesMeansCard

/-- THE TIED CARD OF 'backflushlaw11.NamesAgain'. -/
def namesAgainCard : Claim7 := { stood := { row := namesAgainRow, standIns := [], harness := (true, "b9fee9db0ad886cd0c5e95f6ae544c30c0fde78bf580d3669a141dadd946c0b9"), looks := true }, kinds := [], alts := [], laidByText := true, laidKinds := [.data], laidTests := true, laidLooks := .later }
def NamesAgainCardSaid : Prop := Claim7.holds Tryz.pinned (.plain (OpenSpec.ofChange namesAgainSpec)) namesAgainCard

/-- THE TIED CARD OF 'backflushlaw11.NamesTwice'. -/
def namesTwiceCard : Claim7 := { stood := { row := namesTwiceRow, standIns := [], harness := (true, "b9fee9db0ad886cd0c5e95f6ae544c30c0fde78bf580d3669a141dadd946c0b9"), looks := true }, kinds := [], alts := [], laidByText := true, laidKinds := [.data], laidTests := true, laidLooks := .later }
def NamesTwiceCardSaid : Prop := Claim7.holds Tryz.pinned (.plain (OpenSpec.ofChange namesTwiceSpec)) namesTwiceCard

/-- THE TIED CARD OF 'backflushlaw11.NamesMissing'. -/
def namesMissingCard : Claim7 := { stood := { row := namesMissingRow, standIns := [], harness := (true, "b9fee9db0ad886cd0c5e95f6ae544c30c0fde78bf580d3669a141dadd946c0b9"), looks := true }, kinds := [], alts := [], laidByText := true, laidKinds := [.data], laidTests := true, laidLooks := .later }
def NamesMissingCardSaid : Prop := Claim7.holds Tryz.pinned (.plain (OpenSpec.ofChange namesMissingSpec)) namesMissingCard

/-- THE TIED CARD OF 'backflushlaw11.NamesFindSpec'. -/
def namesFindSpecCard : Claim7 := { stood := { row := namesFindSpecRow, standIns := [], harness := (true, "b9fee9db0ad886cd0c5e95f6ae544c30c0fde78bf580d3669a141dadd946c0b9"), looks := true }, kinds := [], alts := [], laidByText := true, laidKinds := [.data], laidTests := true, laidLooks := .later }
def NamesFindSpecCardSaid : Prop := Claim7.holds Tryz.pinned (.plain (OpenSpec.ofChange namesFindSpecSpec)) namesFindSpecCard

/-- THE SECOND FORM's CARD OF 'backflushlaw11.NamesResolveSpec'. -/
def namesResolveSpecUptoCard : Claim7 := { stood := { row := namesResolveSpecUptoRow, standIns := [], harness := (true, "b9fee9db0ad886cd0c5e95f6ae544c30c0fde78bf580d3669a141dadd946c0b9"), looks := true }, kinds := [], alts := [], laidByText := true, laidKinds := [.data], laidTests := true, laidLooks := .later }
def NamesResolveSpecUptoCardSaid : Prop := Claim7.holds Tryz.pinned (.plain (OpenSpec.upto namesResolveSpecSpec)) namesResolveSpecUptoCard

/-- THE SECOND FORM's CARD OF 'backflushlaw11.NamesMeans'. -/
def namesMeansUptoCard : Claim7 := { stood := { row := namesMeansUptoRow, standIns := [], harness := (true, "b9fee9db0ad886cd0c5e95f6ae544c30c0fde78bf580d3669a141dadd946c0b9"), looks := true }, kinds := [], alts := [], laidByText := true, laidKinds := [.data], laidTests := true, laidLooks := .later }
def NamesMeansUptoCardSaid : Prop := Claim7.holds Tryz.pinned (.plain (OpenSpec.upto namesMeansSpec)) namesMeansUptoCard

/-- THE SECOND FORM's CARD OF 'backflushlaw11.NamesAgain'. -/
def namesAgainUptoCard : Claim7 := { stood := { row := namesAgainUptoRow, standIns := [], harness := (true, "b9fee9db0ad886cd0c5e95f6ae544c30c0fde78bf580d3669a141dadd946c0b9"), looks := true }, kinds := [], alts := [], laidByText := true, laidKinds := [.data], laidTests := true, laidLooks := .later }
def NamesAgainUptoCardSaid : Prop := Claim7.holds Tryz.pinned (.plain (OpenSpec.upto namesAgainSpec)) namesAgainUptoCard

/-- THE SECOND FORM's CARD OF 'backflushlaw11.NamesTwice'. -/
def namesTwiceUptoCard : Claim7 := { stood := { row := namesTwiceUptoRow, standIns := [], harness := (true, "b9fee9db0ad886cd0c5e95f6ae544c30c0fde78bf580d3669a141dadd946c0b9"), looks := true }, kinds := [], alts := [], laidByText := true, laidKinds := [.data], laidTests := true, laidLooks := .later }
def NamesTwiceUptoCardSaid : Prop := Claim7.holds Tryz.pinned (.plain (OpenSpec.upto namesTwiceSpec)) namesTwiceUptoCard

/-- THE SECOND FORM's CARD OF 'backflushlaw11.NamesMissing'. -/
def namesMissingUptoCard : Claim7 := { stood := { row := namesMissingUptoRow, standIns := [], harness := (true, "b9fee9db0ad886cd0c5e95f6ae544c30c0fde78bf580d3669a141dadd946c0b9"), looks := true }, kinds := [], alts := [], laidByText := true, laidKinds := [.data], laidTests := true, laidLooks := .later }
def NamesMissingUptoCardSaid : Prop := Claim7.holds Tryz.pinned (.plain (OpenSpec.upto namesMissingSpec)) namesMissingUptoCard

/-- THE SECOND FORM's CARD OF 'backflushlaw11.NamesFindSpec'. -/
def namesFindSpecUptoCard : Claim7 := { stood := { row := namesFindSpecUptoRow, standIns := [], harness := (true, "b9fee9db0ad886cd0c5e95f6ae544c30c0fde78bf580d3669a141dadd946c0b9"), looks := true }, kinds := [], alts := [], laidByText := true, laidKinds := [.data], laidTests := true, laidLooks := .later }
def NamesFindSpecUptoCardSaid : Prop := Claim7.holds Tryz.pinned (.plain (OpenSpec.upto namesFindSpecSpec)) namesFindSpecUptoCard
end Rows
end Go.Proofs.YtofjdbmcloemnaaGreatDoor
