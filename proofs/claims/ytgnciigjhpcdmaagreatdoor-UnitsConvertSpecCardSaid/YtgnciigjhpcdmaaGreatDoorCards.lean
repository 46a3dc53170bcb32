/-
  DERIVED. GIVEN WITH THE SEED: THE CARDS: each row of YtgnciigjhpcdmaaGreatDoorRows.lean that lists a variable, with what it lists TIED to the program's text (the seventh form; the later family's looks); each row that meets fmt, with fmt's text TOLD by the authors' own Lean function (tested against real Go, not proved from fmt's source: count such statements apart). THE CARD IS WHAT COUNTS. Prove the row's statement (the work); the ties are given (YtgnciigjhpcdmaaGreatDoorTie.lean); close each card by the builder's one call (the guide's Derived/Test/ToyasCard.lean, 'card_holds'). Laid BY PROGRAM, IN A SANDBOX (cutbox-door.mjs). By AI agents, Wed Nov 11 2026. No macro, syntax, notation, axiom, sorry.
-/
import Derived.Test.YtgnciigjhpcdmaaGreatDoorRows
import GoSem.ClaimSeven
namespace Go.Proofs.YtgnciigjhpcdmaaGreatDoor
namespace Rows

/-- THE TIED CARD OF 'backflushlaw09.UnitsSpec'. -/
def unitsSpecCard : Claim7 := { stood := { row := unitsSpecRow, standIns := [], harness := (true, "d11a45cf20f068b1ef0cf10d75148dcb9cf448a1dcf64ecbb1152b0903011536"), looks := true }, kinds := [], alts := [], laidByText := true, laidKinds := [.data], laidTests := true, laidLooks := .later }
def UnitsSpecCardSaid : Prop := Claim7.holds Tryz.pinned (.plain (OpenSpec.ofChange unitsSpecSpec)) unitsSpecCard

/-- THE TIED CARD OF 'backflushlaw09.UnitsConvertSpec'. -/
def unitsConvertSpecCard : Claim7 := { stood := { row := unitsConvertSpecRow, standIns := [], harness := (true, "d11a45cf20f068b1ef0cf10d75148dcb9cf448a1dcf64ecbb1152b0903011536"), looks := true }, kinds := [], alts := [], laidByText := true, laidKinds := [.data], laidTests := true, laidLooks := .later }
def UnitsConvertSpecCardSaid : Prop := Claim7.holds Tryz.pinned (.plain (OpenSpec.ofChange unitsConvertSpecSpec)) unitsConvertSpecCard

/-- THE SECOND FORM's CARD OF 'backflushlaw09.UnitsSpec'. -/
def unitsSpecUptoCard : Claim7 := { stood := { row := unitsSpecUptoRow, standIns := [], harness := (true, "d11a45cf20f068b1ef0cf10d75148dcb9cf448a1dcf64ecbb1152b0903011536"), looks := true }, kinds := [], alts := [], laidByText := true, laidKinds := [.data], laidTests := true, laidLooks := .later }
def UnitsSpecUptoCardSaid : Prop := Claim7.holds Tryz.pinned (.plain (OpenSpec.upto unitsSpecSpec)) unitsSpecUptoCard

/-- THE SECOND FORM's CARD OF 'backflushlaw09.UnitsConvertSpec'. -/
def unitsConvertSpecUptoCard : Claim7 := { stood := { row := unitsConvertSpecUptoRow, standIns := [], harness := (true, "d11a45cf20f068b1ef0cf10d75148dcb9cf448a1dcf64ecbb1152b0903011536"), looks := true }, kinds := [], alts := [], laidByText := true, laidKinds := [.data], laidTests := true, laidLooks := .later }
def UnitsConvertSpecUptoCardSaid : Prop := Claim7.holds Tryz.pinned (.plain (OpenSpec.upto unitsConvertSpecSpec)) unitsConvertSpecUptoCard
end Rows
end Go.Proofs.YtgnciigjhpcdmaaGreatDoor
