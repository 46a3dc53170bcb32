/-
  DERIVED. GIVEN WITH THE SEED: THE CARDS: each row of YtgnciigjhpcdmaaDoorRows.lean that lists a variable, with what it lists TIED to the program's text (the seventh form; the later family's looks); each row that meets fmt, with fmt's text TOLD by the authors' own Lean function (tested against real Go, not proved from fmt's source: count such statements apart). THE CARD IS WHAT COUNTS. Prove the row's statement (the work); the ties are given (YtgnciigjhpcdmaaDoorTie.lean); close each card by the builder's one call (the guide's Derived/Test/ToyasCard.lean, 'card_holds'). Laid BY PROGRAM, IN A SANDBOX (cutbox-door.mjs). By AI agents, Wed Nov 11 2026. No macro, syntax, notation, axiom, sorry.
-/
import Derived.Test.YtgnciigjhpcdmaaDoorRows
import GoSem.ClaimSeven
namespace Go.Proofs.YtgnciigjhpcdmaaDoor
namespace Rows

/-- THE TIED CARD OF 'backflushlaw09.UnitsResolved'. -/
def unitsResolvedCard : Claim7 := { stood := { row := unitsResolvedRow, standIns := [], harness := (true, "fcab66c7ba92640a3385c0297ffeeb17996b01bb7079645828c0ddaf5bdb102f"), looks := true }, kinds := [], alts := [], laidByText := true, laidKinds := [.data], laidTests := true, laidLooks := .later }
def UnitsResolvedCardSaid : Prop := Claim7.holds Tryd.pinned (.plain (OpenSpec.ofChange unitsResolvedSpec)) unitsResolvedCard

/-- THE TIED CARD OF 'backflushlaw09.UnitsBack'. -/
def unitsBackCard : Claim7 := { stood := { row := unitsBackRow, standIns := [], harness := (true, "fcab66c7ba92640a3385c0297ffeeb17996b01bb7079645828c0ddaf5bdb102f"), looks := true }, kinds := [], alts := [], laidByText := true, laidKinds := [.data], laidTests := true, laidLooks := .later }
def UnitsBackCardSaid : Prop := Claim7.holds Tryd.pinned (.plain (OpenSpec.ofChange unitsBackSpec)) unitsBackCard

/-- THE TIED CARD OF 'backflushlaw09.UnitsMore'. -/
def unitsMoreCard : Claim7 := { stood := { row := unitsMoreRow, standIns := [], harness := (true, "fcab66c7ba92640a3385c0297ffeeb17996b01bb7079645828c0ddaf5bdb102f"), looks := true }, kinds := [], alts := [], laidByText := true, laidKinds := [.data], laidTests := true, laidLooks := .later }
def UnitsMoreCardSaid : Prop := Claim7.holds Tryd.pinned (.plain (OpenSpec.ofChange unitsMoreSpec)) unitsMoreCard

/-- THE TIED CARD OF 'backflushlaw09.UnitsSums'. -/
def unitsSumsCard : Claim7 := { stood := { row := unitsSumsRow, standIns := [], harness := (true, "fcab66c7ba92640a3385c0297ffeeb17996b01bb7079645828c0ddaf5bdb102f"), looks := true }, kinds := [], alts := [], laidByText := true, laidKinds := [.data], laidTests := true, laidLooks := .later }
def UnitsSumsCardSaid : Prop := Claim7.holds Tryd.pinned (.plain (OpenSpec.ofChange unitsSumsSpec)) unitsSumsCard

/-- THE SECOND FORM's CARD OF 'backflushlaw09.UnitsResolved'. -/
def unitsResolvedUptoCard : Claim7 := { stood := { row := unitsResolvedUptoRow, standIns := [], harness := (true, "fcab66c7ba92640a3385c0297ffeeb17996b01bb7079645828c0ddaf5bdb102f"), looks := true }, kinds := [], alts := [], laidByText := true, laidKinds := [.data], laidTests := true, laidLooks := .later }
def UnitsResolvedUptoCardSaid : Prop := Claim7.holds Tryd.pinned (.plain (OpenSpec.upto unitsResolvedSpec)) unitsResolvedUptoCard

/-- THE SECOND FORM's CARD OF 'backflushlaw09.UnitsBack'. -/
def unitsBackUptoCard : Claim7 := { stood := { row := unitsBackUptoRow, standIns := [], harness := (true, "fcab66c7ba92640a3385c0297ffeeb17996b01bb7079645828c0ddaf5bdb102f"), looks := true }, kinds := [], alts := [], laidByText := true, laidKinds := [.data], laidTests := true, laidLooks := .later }
def UnitsBackUptoCardSaid : Prop := Claim7.holds Tryd.pinned (.plain (OpenSpec.upto unitsBackSpec)) unitsBackUptoCard

/-- THE SECOND FORM's CARD OF 'backflushlaw09.UnitsMore'. -/
def unitsMoreUptoCard : Claim7 := { stood := { row := unitsMoreUptoRow, standIns := [], harness := (true, "fcab66c7ba92640a3385c0297ffeeb17996b01bb7079645828c0ddaf5bdb102f"), looks := true }, kinds := [], alts := [], laidByText := true, laidKinds := [.data], laidTests := true, laidLooks := .later }
def UnitsMoreUptoCardSaid : Prop := Claim7.holds Tryd.pinned (.plain (OpenSpec.upto unitsMoreSpec)) unitsMoreUptoCard

/-- THE SECOND FORM's CARD OF 'backflushlaw09.UnitsSums'. -/
def unitsSumsUptoCard : Claim7 := { stood := { row := unitsSumsUptoRow, standIns := [], harness := (true, "fcab66c7ba92640a3385c0297ffeeb17996b01bb7079645828c0ddaf5bdb102f"), looks := true }, kinds := [], alts := [], laidByText := true, laidKinds := [.data], laidTests := true, laidLooks := .later }
def UnitsSumsUptoCardSaid : Prop := Claim7.holds Tryd.pinned (.plain (OpenSpec.upto unitsSumsSpec)) unitsSumsUptoCard
end Rows
end Go.Proofs.YtgnciigjhpcdmaaDoor
