/-
  DERIVED. GIVEN WITH THE SEED: THE CARDS: each row of YtehlghcpbmbfkaaDoorRows.lean that lists a variable, with what it lists TIED to the program's text (the seventh form; the later family's looks); each row that meets fmt, with fmt's text TOLD by the authors' own Lean function (tested against real Go, not proved from fmt's source: count such statements apart). THE CARD IS WHAT COUNTS. Prove the row's statement (the work); the ties are given (YtehlghcpbmbfkaaDoorTie.lean); close each card by the builder's one call (the guide's Derived/Test/ToyasCard.lean, 'card_holds'). Laid BY PROGRAM, IN A SANDBOX (cutbox-door.mjs). By AI agents, Wed Nov 11 2026. No macro, syntax, notation, axiom, sorry.
-/
import Derived.Test.YtehlghcpbmbfkaaDoorRows
import GoSem.ClaimSeven
namespace Go.Proofs.YtehlghcpbmbfkaaDoor
namespace Rows

/-- THE TIED CARD OF 'backflushlaw06.NaturalsBasicSpec'. -/
def naturalsBasicSpecCard : Claim7 := { stood := { row := naturalsBasicSpecRow, standIns := [], harness := (true, "9855656d3056367679d9f7b085322756f2fb890a4cf60cf94b37caa7f6654e62"), looks := false }, kinds := [], alts := [], laidByText := true, laidKinds := [.data], laidTests := true, laidLooks := .later }
def NaturalsBasicSpecCardSaid : Prop := Claim7.holds Tryd.pinned (.plain (OpenSpec.ofChange naturalsBasicSpecSpec)) naturalsBasicSpecCard

/-- THE TIED CARD OF 'backflushlaw06.NaturalsSumSpec'. -/
def naturalsSumSpecCard : Claim7 := { stood := { row := naturalsSumSpecRow, standIns := [], harness := (true, "9855656d3056367679d9f7b085322756f2fb890a4cf60cf94b37caa7f6654e62"), looks := false }, kinds := [], alts := [], laidByText := true, laidKinds := [.data], laidTests := true, laidLooks := .later }
def NaturalsSumSpecCardSaid : Prop := Claim7.holds Tryd.pinned (.plain (OpenSpec.ofChange naturalsSumSpecSpec)) naturalsSumSpecCard

/-- THE TIED CARD OF 'backflushlaw06.NaturalsDivSpec'. -/
def naturalsDivSpecCard : Claim7 := { stood := { row := naturalsDivSpecRow, standIns := [], harness := (true, "9855656d3056367679d9f7b085322756f2fb890a4cf60cf94b37caa7f6654e62"), looks := false }, kinds := [], alts := [], laidByText := true, laidKinds := [.data], laidTests := true, laidLooks := .later }
def NaturalsDivSpecCardSaid : Prop := Claim7.holds Tryd.pinned (.plain (OpenSpec.ofChange naturalsDivSpecSpec)) naturalsDivSpecCard

/-- THE TIED CARD OF 'backflushlaw06.NaturalsRest'. -/
def naturalsRestCard : Claim7 := { stood := { row := naturalsRestRow, standIns := [], harness := (true, "9855656d3056367679d9f7b085322756f2fb890a4cf60cf94b37caa7f6654e62"), looks := false }, kinds := [], alts := [], laidByText := true, laidKinds := [.data], laidTests := true, laidLooks := .later }
def NaturalsRestCardSaid : Prop := Claim7.holds Tryd.pinned (.plain (OpenSpec.ofChange naturalsRestSpec)) naturalsRestCard

/-- THE TIED CARD OF 'backflushlaw06.NaturalsRules'. -/
def naturalsRulesCard : Claim7 := { stood := { row := naturalsRulesRow, standIns := [], harness := (true, "9855656d3056367679d9f7b085322756f2fb890a4cf60cf94b37caa7f6654e62"), looks := false }, kinds := [], alts := [], laidByText := true, laidKinds := [.data], laidTests := true, laidLooks := .later }
def NaturalsRulesCardSaid : Prop := Claim7.holds Tryd.pinned (.plain (OpenSpec.ofChange naturalsRulesSpec)) naturalsRulesCard

/-- THE TIED CARD OF 'backflushlaw06.NaturalsBack'. -/
def naturalsBackCard : Claim7 := { stood := { row := naturalsBackRow, standIns := [], harness := (true, "9855656d3056367679d9f7b085322756f2fb890a4cf60cf94b37caa7f6654e62"), looks := false }, kinds := [], alts := [], laidByText := true, laidKinds := [.data], laidTests := true, laidLooks := .later }
def NaturalsBackCardSaid : Prop := Claim7.holds Tryd.pinned (.plain (OpenSpec.ofChange naturalsBackSpec)) naturalsBackCard

/-- THE TIED CARD OF 'backflushlaw06.NaturalsGcd'. -/
def naturalsGcdCard : Claim7 := { stood := { row := naturalsGcdRow, standIns := [], harness := (true, "9855656d3056367679d9f7b085322756f2fb890a4cf60cf94b37caa7f6654e62"), looks := false }, kinds := [], alts := [], laidByText := true, laidKinds := [.data], laidTests := true, laidLooks := .later }
def NaturalsGcdCardSaid : Prop := Claim7.holds Tryd.pinned (.plain (OpenSpec.ofChange naturalsGcdSpec)) naturalsGcdCard

/-- THE TIED CARD OF 'backflushlaw06.NaturalsInts'. -/
def naturalsIntsCard : Claim7 := { stood := { row := naturalsIntsRow, standIns := [], harness := (true, "9855656d3056367679d9f7b085322756f2fb890a4cf60cf94b37caa7f6654e62"), looks := false }, kinds := [], alts := [], laidByText := true, laidKinds := [.data], laidTests := true, laidLooks := .later }
def NaturalsIntsCardSaid : Prop := Claim7.holds Tryd.pinned (.plain (OpenSpec.ofChange naturalsIntsSpec)) naturalsIntsCard

/-- THE SECOND FORM's CARD OF 'backflushlaw06.NaturalsBasicSpec'. -/
def naturalsBasicSpecUptoCard : Claim7 := { stood := { row := naturalsBasicSpecUptoRow, standIns := [], harness := (true, "9855656d3056367679d9f7b085322756f2fb890a4cf60cf94b37caa7f6654e62"), looks := false }, kinds := [], alts := [], laidByText := true, laidKinds := [.data], laidTests := true, laidLooks := .later }
def NaturalsBasicSpecUptoCardSaid : Prop := Claim7.holds Tryd.pinned (.plain (OpenSpec.upto naturalsBasicSpecSpec)) naturalsBasicSpecUptoCard

/-- THE SECOND FORM's CARD OF 'backflushlaw06.NaturalsSumSpec'. -/
def naturalsSumSpecUptoCard : Claim7 := { stood := { row := naturalsSumSpecUptoRow, standIns := [], harness := (true, "9855656d3056367679d9f7b085322756f2fb890a4cf60cf94b37caa7f6654e62"), looks := false }, kinds := [], alts := [], laidByText := true, laidKinds := [.data], laidTests := true, laidLooks := .later }
def NaturalsSumSpecUptoCardSaid : Prop := Claim7.holds Tryd.pinned (.plain (OpenSpec.upto naturalsSumSpecSpec)) naturalsSumSpecUptoCard

/-- THE SECOND FORM's CARD OF 'backflushlaw06.NaturalsDivSpec'. -/
def naturalsDivSpecUptoCard : Claim7 := { stood := { row := naturalsDivSpecUptoRow, standIns := [], harness := (true, "9855656d3056367679d9f7b085322756f2fb890a4cf60cf94b37caa7f6654e62"), looks := false }, kinds := [], alts := [], laidByText := true, laidKinds := [.data], laidTests := true, laidLooks := .later }
def NaturalsDivSpecUptoCardSaid : Prop := Claim7.holds Tryd.pinned (.plain (OpenSpec.upto naturalsDivSpecSpec)) naturalsDivSpecUptoCard

/-- THE SECOND FORM's CARD OF 'backflushlaw06.NaturalsRest'. -/
def naturalsRestUptoCard : Claim7 := { stood := { row := naturalsRestUptoRow, standIns := [], harness := (true, "9855656d3056367679d9f7b085322756f2fb890a4cf60cf94b37caa7f6654e62"), looks := false }, kinds := [], alts := [], laidByText := true, laidKinds := [.data], laidTests := true, laidLooks := .later }
def NaturalsRestUptoCardSaid : Prop := Claim7.holds Tryd.pinned (.plain (OpenSpec.upto naturalsRestSpec)) naturalsRestUptoCard

/-- THE SECOND FORM's CARD OF 'backflushlaw06.NaturalsRules'. -/
def naturalsRulesUptoCard : Claim7 := { stood := { row := naturalsRulesUptoRow, standIns := [], harness := (true, "9855656d3056367679d9f7b085322756f2fb890a4cf60cf94b37caa7f6654e62"), looks := false }, kinds := [], alts := [], laidByText := true, laidKinds := [.data], laidTests := true, laidLooks := .later }
def NaturalsRulesUptoCardSaid : Prop := Claim7.holds Tryd.pinned (.plain (OpenSpec.upto naturalsRulesSpec)) naturalsRulesUptoCard

/-- THE SECOND FORM's CARD OF 'backflushlaw06.NaturalsBack'. -/
def naturalsBackUptoCard : Claim7 := { stood := { row := naturalsBackUptoRow, standIns := [], harness := (true, "9855656d3056367679d9f7b085322756f2fb890a4cf60cf94b37caa7f6654e62"), looks := false }, kinds := [], alts := [], laidByText := true, laidKinds := [.data], laidTests := true, laidLooks := .later }
def NaturalsBackUptoCardSaid : Prop := Claim7.holds Tryd.pinned (.plain (OpenSpec.upto naturalsBackSpec)) naturalsBackUptoCard

/-- THE SECOND FORM's CARD OF 'backflushlaw06.NaturalsGcd'. -/
def naturalsGcdUptoCard : Claim7 := { stood := { row := naturalsGcdUptoRow, standIns := [], harness := (true, "9855656d3056367679d9f7b085322756f2fb890a4cf60cf94b37caa7f6654e62"), looks := false }, kinds := [], alts := [], laidByText := true, laidKinds := [.data], laidTests := true, laidLooks := .later }
def NaturalsGcdUptoCardSaid : Prop := Claim7.holds Tryd.pinned (.plain (OpenSpec.upto naturalsGcdSpec)) naturalsGcdUptoCard

/-- THE SECOND FORM's CARD OF 'backflushlaw06.NaturalsInts'. -/
def naturalsIntsUptoCard : Claim7 := { stood := { row := naturalsIntsUptoRow, standIns := [], harness := (true, "9855656d3056367679d9f7b085322756f2fb890a4cf60cf94b37caa7f6654e62"), looks := false }, kinds := [], alts := [], laidByText := true, laidKinds := [.data], laidTests := true, laidLooks := .later }
def NaturalsIntsUptoCardSaid : Prop := Claim7.holds Tryd.pinned (.plain (OpenSpec.upto naturalsIntsSpec)) naturalsIntsUptoCard
end Rows
end Go.Proofs.YtehlghcpbmbfkaaDoor
