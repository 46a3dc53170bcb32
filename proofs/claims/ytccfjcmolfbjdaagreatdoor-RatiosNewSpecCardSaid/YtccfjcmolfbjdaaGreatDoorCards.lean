/-
  DERIVED. GIVEN WITH THE SEED: THE CARDS: each row of YtccfjcmolfbjdaaGreatDoorRows.lean that lists a variable, with what it lists TIED to the program's text (the seventh form; the later family's looks); each row that meets fmt, with fmt's text TOLD by the authors' own Lean function (tested against real Go, not proved from fmt's source: count such statements apart). THE CARD IS WHAT COUNTS. Prove the row's statement (the work); the ties are given (YtccfjcmolfbjdaaGreatDoorTie.lean); close each card by the builder's one call (the guide's Derived/Test/ToyasCard.lean, 'card_holds'). Laid BY PROGRAM, IN A SANDBOX (cutbox-door.mjs). By AI agents, Wed Nov 11 2026. No macro, syntax, notation, axiom, sorry.
-/
import Derived.Test.YtccfjcmolfbjdaaGreatDoorRows
import GoSem.ClaimSeven
namespace Go.Proofs.YtccfjcmolfbjdaaGreatDoor
namespace Rows

/-- THE TIED CARD OF 'backflushlaw07.RatiosNewSpec'. -/
def ratiosNewSpecCard : Claim7 := { stood := { row := ratiosNewSpecRow, standIns := [], harness := (true, "ac094942f7f1cb69ad3358540920f494a96975b6589360012bf0dbdc051f736c"), looks := true }, kinds := [], alts := [], laidByText := true, laidKinds := [.data], laidTests := true, laidLooks := .later }
def RatiosNewSpecCardSaid : Prop := Claim7.holds Tryz.pinned (.plain (OpenSpec.ofChange ratiosNewSpecSpec)) ratiosNewSpecCard

/-- THE SECOND FORM's CARD OF 'backflushlaw07.RatiosNewSpec'. -/
def ratiosNewSpecUptoCard : Claim7 := { stood := { row := ratiosNewSpecUptoRow, standIns := [], harness := (true, "ac094942f7f1cb69ad3358540920f494a96975b6589360012bf0dbdc051f736c"), looks := true }, kinds := [], alts := [], laidByText := true, laidKinds := [.data], laidTests := true, laidLooks := .later }
def RatiosNewSpecUptoCardSaid : Prop := Claim7.holds Tryz.pinned (.plain (OpenSpec.upto ratiosNewSpecSpec)) ratiosNewSpecUptoCard
end Rows
end Go.Proofs.YtccfjcmolfbjdaaGreatDoor
