/-
  DERIVED. GIVEN WITH THE SEED: THE CARDS: each row of YtccfjcmolfbjdaaDoorRows.lean that lists a variable, with what it lists TIED to the program's text (the seventh form; the later family's looks); each row that meets fmt, with fmt's text TOLD by the authors' own Lean function (tested against real Go, not proved from fmt's source: count such statements apart). THE CARD IS WHAT COUNTS. Prove the row's statement (the work); the ties are given (YtccfjcmolfbjdaaDoorTie.lean); close each card by the builder's one call (the guide's Derived/Test/ToyasCard.lean, 'card_holds'). Laid BY PROGRAM, IN A SANDBOX (cutbox-door.mjs). By AI agents, Wed Nov 11 2026. No macro, syntax, notation, axiom, sorry.
-/
import Derived.Test.YtccfjcmolfbjdaaDoorRows
import GoSem.ClaimSeven
namespace Go.Proofs.YtccfjcmolfbjdaaDoor
namespace Rows

/-- THE TIED CARD OF 'backflushlaw07.RatiosArithSpec'. -/
def ratiosArithSpecCard : Claim7 := { stood := { row := ratiosArithSpecRow, standIns := [], harness := (true, "439802b2f297c19ae6730f9262a3562355034235d1161207ac7213ffa049448b"), looks := true }, kinds := [], alts := [], laidByText := true, laidKinds := [.data], laidTests := true, laidLooks := .later }
def RatiosArithSpecCardSaid : Prop := Claim7.holds Tryd.pinned (.plain (OpenSpec.ofChange ratiosArithSpecSpec)) ratiosArithSpecCard

/-- THE TIED CARD OF 'backflushlaw07.RatiosField'. -/
def ratiosFieldCard : Claim7 := { stood := { row := ratiosFieldRow, standIns := [], harness := (true, "439802b2f297c19ae6730f9262a3562355034235d1161207ac7213ffa049448b"), looks := true }, kinds := [], alts := [], laidByText := true, laidKinds := [.data], laidTests := true, laidLooks := .later }
def RatiosFieldCardSaid : Prop := Claim7.holds Tryd.pinned (.plain (OpenSpec.ofChange ratiosFieldSpec)) ratiosFieldCard

/-- THE TIED CARD OF 'backflushlaw07.RatiosOrder'. -/
def ratiosOrderCard : Claim7 := { stood := { row := ratiosOrderRow, standIns := [], harness := (true, "439802b2f297c19ae6730f9262a3562355034235d1161207ac7213ffa049448b"), looks := true }, kinds := [], alts := [], laidByText := true, laidKinds := [.data], laidTests := true, laidLooks := .later }
def RatiosOrderCardSaid : Prop := Claim7.holds Tryd.pinned (.plain (OpenSpec.ofChange ratiosOrderSpec)) ratiosOrderCard

/-- THE TIED CARD OF 'backflushlaw07.RatiosInts'. -/
def ratiosIntsCard : Claim7 := { stood := { row := ratiosIntsRow, standIns := [], harness := (true, "439802b2f297c19ae6730f9262a3562355034235d1161207ac7213ffa049448b"), looks := true }, kinds := [], alts := [], laidByText := true, laidKinds := [.data], laidTests := true, laidLooks := .later }
def RatiosIntsCardSaid : Prop := Claim7.holds Tryd.pinned (.plain (OpenSpec.ofChange ratiosIntsSpec)) ratiosIntsCard

/-- THE TIED CARD OF 'backflushlaw07.RatiosRound'. -/
def ratiosRoundCard : Claim7 := { stood := { row := ratiosRoundRow, standIns := [], harness := (true, "439802b2f297c19ae6730f9262a3562355034235d1161207ac7213ffa049448b"), looks := true }, kinds := [], alts := [], laidByText := true, laidKinds := [.data], laidTests := true, laidLooks := .later }
def RatiosRoundCardSaid : Prop := Claim7.holds Tryd.pinned (.plain (OpenSpec.ofChange ratiosRoundSpec)) ratiosRoundCard

/-- THE TIED CARD OF 'backflushlaw07.RatiosLowest'. -/
def ratiosLowestCard : Claim7 := { stood := { row := ratiosLowestRow, standIns := [], harness := (true, "439802b2f297c19ae6730f9262a3562355034235d1161207ac7213ffa049448b"), looks := true }, kinds := [], alts := [], laidByText := true, laidKinds := [.data], laidTests := true, laidLooks := .later }
def RatiosLowestCardSaid : Prop := Claim7.holds Tryd.pinned (.plain (OpenSpec.ofChange ratiosLowestSpec)) ratiosLowestCard

/-- THE SECOND FORM's CARD OF 'backflushlaw07.RatiosArithSpec'. -/
def ratiosArithSpecUptoCard : Claim7 := { stood := { row := ratiosArithSpecUptoRow, standIns := [], harness := (true, "439802b2f297c19ae6730f9262a3562355034235d1161207ac7213ffa049448b"), looks := true }, kinds := [], alts := [], laidByText := true, laidKinds := [.data], laidTests := true, laidLooks := .later }
def RatiosArithSpecUptoCardSaid : Prop := Claim7.holds Tryd.pinned (.plain (OpenSpec.upto ratiosArithSpecSpec)) ratiosArithSpecUptoCard

/-- THE SECOND FORM's CARD OF 'backflushlaw07.RatiosField'. -/
def ratiosFieldUptoCard : Claim7 := { stood := { row := ratiosFieldUptoRow, standIns := [], harness := (true, "439802b2f297c19ae6730f9262a3562355034235d1161207ac7213ffa049448b"), looks := true }, kinds := [], alts := [], laidByText := true, laidKinds := [.data], laidTests := true, laidLooks := .later }
def RatiosFieldUptoCardSaid : Prop := Claim7.holds Tryd.pinned (.plain (OpenSpec.upto ratiosFieldSpec)) ratiosFieldUptoCard

/-- THE SECOND FORM's CARD OF 'backflushlaw07.RatiosOrder'. -/
def ratiosOrderUptoCard : Claim7 := { stood := { row := ratiosOrderUptoRow, standIns := [], harness := (true, "439802b2f297c19ae6730f9262a3562355034235d1161207ac7213ffa049448b"), looks := true }, kinds := [], alts := [], laidByText := true, laidKinds := [.data], laidTests := true, laidLooks := .later }
def RatiosOrderUptoCardSaid : Prop := Claim7.holds Tryd.pinned (.plain (OpenSpec.upto ratiosOrderSpec)) ratiosOrderUptoCard

/-- THE SECOND FORM's CARD OF 'backflushlaw07.RatiosInts'. -/
def ratiosIntsUptoCard : Claim7 := { stood := { row := ratiosIntsUptoRow, standIns := [], harness := (true, "439802b2f297c19ae6730f9262a3562355034235d1161207ac7213ffa049448b"), looks := true }, kinds := [], alts := [], laidByText := true, laidKinds := [.data], laidTests := true, laidLooks := .later }
def RatiosIntsUptoCardSaid : Prop := Claim7.holds Tryd.pinned (.plain (OpenSpec.upto ratiosIntsSpec)) ratiosIntsUptoCard

/-- THE SECOND FORM's CARD OF 'backflushlaw07.RatiosRound'. -/
def ratiosRoundUptoCard : Claim7 := { stood := { row := ratiosRoundUptoRow, standIns := [], harness := (true, "439802b2f297c19ae6730f9262a3562355034235d1161207ac7213ffa049448b"), looks := true }, kinds := [], alts := [], laidByText := true, laidKinds := [.data], laidTests := true, laidLooks := .later }
def RatiosRoundUptoCardSaid : Prop := Claim7.holds Tryd.pinned (.plain (OpenSpec.upto ratiosRoundSpec)) ratiosRoundUptoCard

/-- THE SECOND FORM's CARD OF 'backflushlaw07.RatiosLowest'. -/
def ratiosLowestUptoCard : Claim7 := { stood := { row := ratiosLowestUptoRow, standIns := [], harness := (true, "439802b2f297c19ae6730f9262a3562355034235d1161207ac7213ffa049448b"), looks := true }, kinds := [], alts := [], laidByText := true, laidKinds := [.data], laidTests := true, laidLooks := .later }
def RatiosLowestUptoCardSaid : Prop := Claim7.holds Tryd.pinned (.plain (OpenSpec.upto ratiosLowestSpec)) ratiosLowestUptoCard
end Rows
end Go.Proofs.YtccfjcmolfbjdaaDoor
