/-
  DERIVED. GIVEN WITH THE SEED: THE CARDS: each row of YthjedpdedjhndaaGreatDoorRows.lean that lists a variable, with what it lists TIED to the program's text (the seventh form; the later family's looks); each row that meets fmt, with fmt's text TOLD by the authors' own Lean function (tested against real Go, not proved from fmt's source: count such statements apart). THE CARD IS WHAT COUNTS. Prove the row's statement (the work); the ties are given (YthjedpdedjhndaaGreatDoorTie.lean); close each card by the builder's one call (the guide's Derived/Test/ToyasCard.lean, 'card_holds'). Laid BY PROGRAM, IN A SANDBOX (cutbox-door.mjs). By AI agents, Wed Nov 11 2026. No macro, syntax, notation, axiom, sorry.
-/
import Derived.Test.YthjedpdedjhndaaGreatDoorRows
import GoSem.ClaimSeven
namespace Go.Proofs.YthjedpdedjhndaaGreatDoor
namespace Rows

/-- THE TIED CARD OF 'backflushlaw14.BalanceOfSpec'. -/
def balanceOfSpecCard : Claim7 := { stood := { row := balanceOfSpecRow, standIns := [], harness := (true, "3c1e1130f80736fd5bd8f46d4fb6cb8abff456d0c655b8cf9397a009b99f9d84"), looks := true }, kinds := [], alts := [], laidByText := true, laidKinds := [.data], laidTests := true, laidLooks := .later }
def BalanceOfSpecCardSaid : Prop := Claim7.holds Tryz.pinned (.plain (OpenSpec.ofChange balanceOfSpecSpec)) balanceOfSpecCard

/-- THE TIED CARD OF 'backflushlaw14.BalanceSpec'. -/
def balanceSpecCard : Claim7 := { stood := { row := balanceSpecRow, standIns := [], harness := (true, "3c1e1130f80736fd5bd8f46d4fb6cb8abff456d0c655b8cf9397a009b99f9d84"), looks := true }, kinds := [], alts := [], laidByText := true, laidKinds := [.data], laidTests := true, laidLooks := .later }
def BalanceSpecCardSaid : Prop := Claim7.holds Tryz.pinned (.plain (OpenSpec.ofChange balanceSpecSpec)) balanceSpecCard

/-- THE TIED CARD OF 'backflushlaw14.BalanceHolds'. -/
def balanceHoldsCard : Claim7 := { stood := { row := balanceHoldsRow, standIns := [], harness := (true, "3c1e1130f80736fd5bd8f46d4fb6cb8abff456d0c655b8cf9397a009b99f9d84"), looks := true }, kinds := [], alts := [], laidByText := true, laidKinds := [.data], laidTests := true, laidLooks := .later }
def BalanceHoldsCardSaid : Prop := Claim7.holds Tryz.pinned (.plain (OpenSpec.ofChange balanceHoldsSpec)) balanceHoldsCard

/-- THE TIED CARD OF 'backflushlaw14.BalanceMasses'. -/
def balanceMassesCard : Claim7 := { stood := { row := balanceMassesRow, standIns := [], harness := (true, "3c1e1130f80736fd5bd8f46d4fb6cb8abff456d0c655b8cf9397a009b99f9d84"), looks := true }, kinds := [], alts := [], laidByText := true, laidKinds := [.data], laidTests := true, laidLooks := .later }
def BalanceMassesCardSaid : Prop := Claim7.holds Tryz.pinned (.plain (OpenSpec.ofChange balanceMassesSpec)) balanceMassesCard

/-- THE TIED CARD OF 'backflushlaw14.BalanceMore'. -/
def balanceMoreCard : Claim7 := { stood := { row := balanceMoreRow, standIns := [], harness := (true, "3c1e1130f80736fd5bd8f46d4fb6cb8abff456d0c655b8cf9397a009b99f9d84"), looks := true }, kinds := [], alts := [], laidByText := true, laidKinds := [.data], laidTests := true, laidLooks := .later }
def BalanceMoreCardSaid : Prop := Claim7.holds Tryz.pinned (.plain (OpenSpec.ofChange balanceMoreSpec)) balanceMoreCard

/-- THE TIED CARD OF 'backflushlaw14.BalanceTwice'. -/
def balanceTwiceCard : Claim7 := { stood := { row := balanceTwiceRow, standIns := [], harness := (true, "3c1e1130f80736fd5bd8f46d4fb6cb8abff456d0c655b8cf9397a009b99f9d84"), looks := true }, kinds := [], alts := [], laidByText := true, laidKinds := [.data], laidTests := true, laidLooks := .later }
def BalanceTwiceCardSaid : Prop := Claim7.holds Tryz.pinned (.plain (OpenSpec.ofChange balanceTwiceSpec)) balanceTwiceCard

/-- THE SECOND FORM's CARD OF 'backflushlaw14.BalanceOfSpec'. -/
def balanceOfSpecUptoCard : Claim7 := { stood := { row := balanceOfSpecUptoRow, standIns := [], harness := (true, "3c1e1130f80736fd5bd8f46d4fb6cb8abff456d0c655b8cf9397a009b99f9d84"), looks := true }, kinds := [], alts := [], laidByText := true, laidKinds := [.data], laidTests := true, laidLooks := .later }
def BalanceOfSpecUptoCardSaid : Prop := Claim7.holds Tryz.pinned (.plain (OpenSpec.upto balanceOfSpecSpec)) balanceOfSpecUptoCard

/-- THE SECOND FORM's CARD OF 'backflushlaw14.BalanceSpec'. -/
def balanceSpecUptoCard : Claim7 := { stood := { row := balanceSpecUptoRow, standIns := [], harness := (true, "3c1e1130f80736fd5bd8f46d4fb6cb8abff456d0c655b8cf9397a009b99f9d84"), looks := true }, kinds := [], alts := [], laidByText := true, laidKinds := [.data], laidTests := true, laidLooks := .later }
def BalanceSpecUptoCardSaid : Prop := Claim7.holds Tryz.pinned (.plain (OpenSpec.upto balanceSpecSpec)) balanceSpecUptoCard

/-- THE SECOND FORM's CARD OF 'backflushlaw14.BalanceHolds'. -/
def balanceHoldsUptoCard : Claim7 := { stood := { row := balanceHoldsUptoRow, standIns := [], harness := (true, "3c1e1130f80736fd5bd8f46d4fb6cb8abff456d0c655b8cf9397a009b99f9d84"), looks := true }, kinds := [], alts := [], laidByText := true, laidKinds := [.data], laidTests := true, laidLooks := .later }
def BalanceHoldsUptoCardSaid : Prop := Claim7.holds Tryz.pinned (.plain (OpenSpec.upto balanceHoldsSpec)) balanceHoldsUptoCard

/-- THE SECOND FORM's CARD OF 'backflushlaw14.BalanceMasses'. -/
def balanceMassesUptoCard : Claim7 := { stood := { row := balanceMassesUptoRow, standIns := [], harness := (true, "3c1e1130f80736fd5bd8f46d4fb6cb8abff456d0c655b8cf9397a009b99f9d84"), looks := true }, kinds := [], alts := [], laidByText := true, laidKinds := [.data], laidTests := true, laidLooks := .later }
def BalanceMassesUptoCardSaid : Prop := Claim7.holds Tryz.pinned (.plain (OpenSpec.upto balanceMassesSpec)) balanceMassesUptoCard

/-- THE SECOND FORM's CARD OF 'backflushlaw14.BalanceMore'. -/
def balanceMoreUptoCard : Claim7 := { stood := { row := balanceMoreUptoRow, standIns := [], harness := (true, "3c1e1130f80736fd5bd8f46d4fb6cb8abff456d0c655b8cf9397a009b99f9d84"), looks := true }, kinds := [], alts := [], laidByText := true, laidKinds := [.data], laidTests := true, laidLooks := .later }
def BalanceMoreUptoCardSaid : Prop := Claim7.holds Tryz.pinned (.plain (OpenSpec.upto balanceMoreSpec)) balanceMoreUptoCard

/-- THE SECOND FORM's CARD OF 'backflushlaw14.BalanceTwice'. -/
def balanceTwiceUptoCard : Claim7 := { stood := { row := balanceTwiceUptoRow, standIns := [], harness := (true, "3c1e1130f80736fd5bd8f46d4fb6cb8abff456d0c655b8cf9397a009b99f9d84"), looks := true }, kinds := [], alts := [], laidByText := true, laidKinds := [.data], laidTests := true, laidLooks := .later }
def BalanceTwiceUptoCardSaid : Prop := Claim7.holds Tryz.pinned (.plain (OpenSpec.upto balanceTwiceSpec)) balanceTwiceUptoCard
end Rows
end Go.Proofs.YthjedpdedjhndaaGreatDoor
