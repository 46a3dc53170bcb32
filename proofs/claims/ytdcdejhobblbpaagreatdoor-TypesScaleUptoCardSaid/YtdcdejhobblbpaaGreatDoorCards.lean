/-
  DERIVED. GIVEN WITH THE SEED: THE CARDS: each row of YtdcdejhobblbpaaGreatDoorRows.lean that lists a variable, with what it lists TIED to the program's text (the seventh form; the later family's looks); each row that meets fmt, with fmt's text TOLD by the authors' own Lean function (tested against real Go, not proved from fmt's source: count such statements apart). THE CARD IS WHAT COUNTS. Prove the row's statement (the work); the ties are given (YtdcdejhobblbpaaGreatDoorTie.lean); close each card by the builder's one call (the guide's Derived/Test/ToyasCard.lean, 'card_holds'). Laid BY PROGRAM, IN A SANDBOX (cutbox-door.mjs). By AI agents, Wed Nov 11 2026. No macro, syntax, notation, axiom, sorry.
-/
import Derived.Test.YtdcdejhobblbpaaGreatDoorRows
import GoSem.ClaimSeven
namespace Go.Proofs.YtdcdejhobblbpaaGreatDoor
namespace Rows

/-- THE TIED CARD OF 'backflushlaw12.TypesCheckSpec'. -/
def typesCheckSpecCard : Claim7 := { stood := { row := typesCheckSpecRow, standIns := [], harness := (true, "1984b102782a173480c9621d9147d3252297275f92d399f2ea4ef5ecac920819"), looks := true }, kinds := [], alts := [], laidByText := true, laidKinds := [.data], laidTests := true, laidLooks := .later }
def TypesCheckSpecCardSaid : Prop := Claim7.holds Tryz.pinned (.plain (OpenSpec.ofChange typesCheckSpecSpec)) typesCheckSpecCard

/-- THE TIED CARD OF 'backflushlaw12.TypesAmountSpec'. -/
def typesAmountSpecCard : Claim7 := { stood := { row := typesAmountSpecRow, standIns := [], harness := (true, "1984b102782a173480c9621d9147d3252297275f92d399f2ea4ef5ecac920819"), looks := true }, kinds := [], alts := [], laidByText := true, laidKinds := [.data], laidTests := true, laidLooks := .later }
def TypesAmountSpecCardSaid : Prop := Claim7.holds Tryz.pinned (.plain (OpenSpec.ofChange typesAmountSpecSpec)) typesAmountSpecCard

/-- THE TIED CARD OF 'backflushlaw12.TypesTyped'. -/
def typesTypedCard : Claim7 := { stood := { row := typesTypedRow, standIns := [], harness := (true, "1984b102782a173480c9621d9147d3252297275f92d399f2ea4ef5ecac920819"), looks := true }, kinds := [], alts := [], laidByText := true, laidKinds := [.data], laidTests := true, laidLooks := .later }
def TypesTypedCardSaid : Prop := Claim7.holds Tryz.pinned (.plain (OpenSpec.ofChange typesTypedSpec)) typesTypedCard

/-- THE TIED CARD OF 'backflushlaw12.TypesRecipes'. -/
def typesRecipesCard : Claim7 := { stood := { row := typesRecipesRow, standIns := [], harness := (true, "1984b102782a173480c9621d9147d3252297275f92d399f2ea4ef5ecac920819"), looks := true }, kinds := [], alts := [], laidByText := true, laidKinds := [.data], laidTests := true, laidLooks := .later }
def TypesRecipesCardSaid : Prop := Claim7.holds Tryz.pinned (.plain (OpenSpec.ofChange typesRecipesSpec)) typesRecipesCard

/-- THE TIED CARD OF 'backflushlaw12.TypesUnits'. -/
def typesUnitsCard : Claim7 := { stood := { row := typesUnitsRow, standIns := [], harness := (true, "1984b102782a173480c9621d9147d3252297275f92d399f2ea4ef5ecac920819"), looks := true }, kinds := [], alts := [], laidByText := true, laidKinds := [.data], laidTests := true, laidLooks := .later }
def TypesUnitsCardSaid : Prop := Claim7.holds Tryz.pinned (.plain (OpenSpec.ofChange typesUnitsSpec)) typesUnitsCard

/-- THE TIED CARD OF 'backflushlaw12.TypesScale'. -/
def typesScaleCard : Claim7 := { stood := { row := typesScaleRow, standIns := [], harness := (true, "1984b102782a173480c9621d9147d3252297275f92d399f2ea4ef5ecac920819"), looks := true }, kinds := [], alts := [], laidByText := true, laidKinds := [.data], laidTests := true, laidLooks := .later }
def TypesScaleCardSaid : Prop := Claim7.holds Tryz.pinned (.plain (OpenSpec.ofChange typesScaleSpec)) typesScaleCard

/-- THE TIED CARD OF 'backflushlaw12.TypesFewer'. -/
def typesFewerCard : Claim7 := { stood := { row := typesFewerRow, standIns := [], harness := (true, "1984b102782a173480c9621d9147d3252297275f92d399f2ea4ef5ecac920819"), looks := true }, kinds := [], alts := [], laidByText := true, laidKinds := [.data], laidTests := true, laidLooks := .later }
def TypesFewerCardSaid : Prop := Claim7.holds Tryz.pinned (.plain (OpenSpec.ofChange typesFewerSpec)) typesFewerCard

/-- THE SECOND FORM's CARD OF 'backflushlaw12.TypesCheckSpec'. -/
def typesCheckSpecUptoCard : Claim7 := { stood := { row := typesCheckSpecUptoRow, standIns := [], harness := (true, "1984b102782a173480c9621d9147d3252297275f92d399f2ea4ef5ecac920819"), looks := true }, kinds := [], alts := [], laidByText := true, laidKinds := [.data], laidTests := true, laidLooks := .later }
def TypesCheckSpecUptoCardSaid : Prop := Claim7.holds Tryz.pinned (.plain (OpenSpec.upto typesCheckSpecSpec)) typesCheckSpecUptoCard

/-- THE SECOND FORM's CARD OF 'backflushlaw12.TypesAmountSpec'. -/
def typesAmountSpecUptoCard : Claim7 := { stood := { row := typesAmountSpecUptoRow, standIns := [], harness := (true, "1984b102782a173480c9621d9147d3252297275f92d399f2ea4ef5ecac920819"), looks := true }, kinds := [], alts := [], laidByText := true, laidKinds := [.data], laidTests := true, laidLooks := .later }
def TypesAmountSpecUptoCardSaid : Prop := Claim7.holds Tryz.pinned (.plain (OpenSpec.upto typesAmountSpecSpec)) typesAmountSpecUptoCard

/-- THE SECOND FORM's CARD OF 'backflushlaw12.TypesTyped'. -/
def typesTypedUptoCard : Claim7 := { stood := { row := typesTypedUptoRow, standIns := [], harness := (true, "1984b102782a173480c9621d9147d3252297275f92d399f2ea4ef5ecac920819"), looks := true }, kinds := [], alts := [], laidByText := true, laidKinds := [.data], laidTests := true, laidLooks := .later }
def TypesTypedUptoCardSaid : Prop := Claim7.holds Tryz.pinned (.plain (OpenSpec.upto typesTypedSpec)) typesTypedUptoCard

/-- THE SECOND FORM's CARD OF 'backflushlaw12.TypesRecipes'. -/
def typesRecipesUptoCard : Claim7 := { stood := { row := typesRecipesUptoRow, standIns := [], harness := (true, "1984b102782a173480c9621d9147d3252297275f92d399f2ea4ef5ecac920819"), looks := true }, kinds := [], alts := [], laidByText := true, laidKinds := [.data], laidTests := true, laidLooks := .later }
def TypesRecipesUptoCardSaid : Prop := Claim7.holds Tryz.pinned (.plain (OpenSpec.upto typesRecipesSpec)) typesRecipesUptoCard

/-- THE SECOND FORM's CARD OF 'backflushlaw12.TypesUnits'. -/
def typesUnitsUptoCard : Claim7 := { stood := { row := typesUnitsUptoRow, standIns := [], harness := (true, "1984b102782a173480c9621d9147d3252297275f92d399f2ea4ef5ecac920819"), looks := true }, kinds := [], alts := [], laidByText := true, laidKinds := [.data], laidTests := true, laidLooks := .later }
def TypesUnitsUptoCardSaid : Prop := Claim7.holds Tryz.pinned (.plain (OpenSpec.upto typesUnitsSpec)) typesUnitsUptoCard

/-- THE SECOND FORM's CARD OF 'backflushlaw12.TypesScale'. -/
def typesScaleUptoCard : Claim7 := { stood := { row := typesScaleUptoRow, standIns := [], harness := (true, "1984b102782a173480c9621d9147d3252297275f92d399f2ea4ef5ecac920819"), looks := true }, kinds := [], alts := [], laidByText := true, laidKinds := [.data], laidTests := true, laidLooks := .later }
def TypesScaleUptoCardSaid : Prop := Claim7.holds Tryz.pinned (.plain (OpenSpec.upto typesScaleSpec)) typesScaleUptoCard

/-- THE SECOND FORM's CARD OF 'backflushlaw12.TypesFewer'. -/
def typesFewerUptoCard : Claim7 := { stood := { row := typesFewerUptoRow, standIns := [], harness := (true, "1984b102782a173480c9621d9147d3252297275f92d399f2ea4ef5ecac920819"), looks := true }, kinds := [], alts := [], laidByText := true, laidKinds := [.data], laidTests := true, laidLooks := .later }
def TypesFewerUptoCardSaid : Prop := Claim7.holds Tryz.pinned (.plain (OpenSpec.upto typesFewerSpec)) typesFewerUptoCard
end Rows
end Go.Proofs.YtdcdejhobblbpaaGreatDoor
