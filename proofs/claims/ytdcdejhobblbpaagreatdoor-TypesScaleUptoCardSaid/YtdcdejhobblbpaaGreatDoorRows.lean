/-
  NARROWER THAN 'FOR EVERY INPUT', by the rows' own cells (each row's printed sentence says how): TypesCheckSpec: laid · TypesAmountSpec: laid · TypesTyped: laid · TypesRecipes: laid · TypesUnits: laid · TypesScale: laid · TypesFewer: laid.
  DERIVED. THE GIVEN ROWS OF THIS SEAT. 7 by the template 'for every input the law returns true; each argument reads behind the call as it read before'; 0 by the template 'total and deterministic' (their statements: YtdcdejhobblbpaaGreatDoorTotals.lean).
  GIVEN WITH THE SEED: the statements are not yours to turn. If you find one false, say at which input.
  Laid BY PROGRAM, IN A SANDBOX (cutbox-rows.mjs): the forced cells as the released guide's own fill.sh prints them over the translation dee928b077065626… (all of the seat's roots in one cut). By AI agents, Wed Nov 11 2026. No macro, syntax, notation, axiom, sorry.
-/
import Derived.Test.YtdcdejhobblbpaaGreatDoorChecked
import GoSem.Claim
import GoSem.ClaimJoined
import GoSem.ClaimMapViews
import Derived.JoinedTies
import Derived.KernelRfl
namespace Go.Proofs.YtdcdejhobblbpaaGreatDoor
/- THE CELL 'sum', in the pinned program and in every row, IS THE sha256 OF THE DUMP (.gsa) THAT YtdcdejhobblbpaaGreatDoorProg.lean LOADS. Nothing in Lean hashes anything: it is a label: what it is worth is what the hold of that sum in a sandbox is worth. -/
noncomputable def Tryz.pinned : Pinned := { name := "ytdcdejhobblbpaagreatdoor", sum := "dee928b077065626ac23c3af7f5189c7e92b54a6c5e01a8f95afb672371ceab8", checked := Tryz.checked }
namespace Rows
def none {H : Type} : Left H := { results := [], args := [] }

/- WHAT THE LISTED PACKAGE-LEVEL VARIABLES READ AS WHEN THE CALL BEGINS. Each datum BY PROGRAM (the guide's laid-datum.mjs) off the statement by which the dump's own 'gosem.cut.vars' lays the variable. In a bare row this is a premise. The card (YtdcdejhobblbpaaGreatDoorCards.lean) ties it to the program's text. -/
def laid_math_bits_deBruijn64tab {H : Type} : DataW H := .agg [.lit (.int .u8 0), .lit (.int .u8 1), .lit (.int .u8 56), .lit (.int .u8 2), .lit (.int .u8 57), .lit (.int .u8 49), .lit (.int .u8 28), .lit (.int .u8 3), .lit (.int .u8 61), .lit (.int .u8 58), .lit (.int .u8 42), .lit (.int .u8 50), .lit (.int .u8 38), .lit (.int .u8 29), .lit (.int .u8 17), .lit (.int .u8 4), .lit (.int .u8 62), .lit (.int .u8 47), .lit (.int .u8 59), .lit (.int .u8 36), .lit (.int .u8 45), .lit (.int .u8 43), .lit (.int .u8 51), .lit (.int .u8 22), .lit (.int .u8 53), .lit (.int .u8 39), .lit (.int .u8 33), .lit (.int .u8 30), .lit (.int .u8 24), .lit (.int .u8 18), .lit (.int .u8 12), .lit (.int .u8 5), .lit (.int .u8 63), .lit (.int .u8 55), .lit (.int .u8 48), .lit (.int .u8 27), .lit (.int .u8 60), .lit (.int .u8 41), .lit (.int .u8 37), .lit (.int .u8 16), .lit (.int .u8 46), .lit (.int .u8 35), .lit (.int .u8 44), .lit (.int .u8 21), .lit (.int .u8 52), .lit (.int .u8 32), .lit (.int .u8 23), .lit (.int .u8 11), .lit (.int .u8 54), .lit (.int .u8 26), .lit (.int .u8 40), .lit (.int .u8 15), .lit (.int .u8 34), .lit (.int .u8 20), .lit (.int .u8 31), .lit (.int .u8 10), .lit (.int .u8 25), .lit (.int .u8 14), .lit (.int .u8 19), .lit (.int .u8 9), .lit (.int .u8 13), .lit (.int .u8 8), .lit (.int .u8 7), .lit (.int .u8 6)]

/-- 'backflushlaw12.TypesCheckSpec': WHATEVER THE INPUT: true; the input reads as it did. -/
def typesCheckSpecSpec : ChangeSpec := { name := "typesCheckSpec", fn := fun _ => fun
  | [d] => { results := [.lit (.bool true)], args := [d] }
  | _ => none }
def typesCheckSpecRow : OpenClaim := { program := "ytdcdejhobblbpaagreatdoor", sum := "dee928b077065626ac23c3af7f5189c7e92b54a6c5e01a8f95afb672371ceab8", func := "backflush/backflushlaw12.TypesCheckSpec", spec := "typesCheckSpec", inPlace := ["math/bits.Add64", "math/bits.Sub64"], unfollowed := true, recurses := true, named := ["math/bits.deBruijn64tab", "math/bits.divideError", "math/bits.overflowError"], apart := false, laid := [("math/bits.deBruijn64tab", laid_math_bits_deBruijn64tab)] }
def TypesCheckSpecSaid : Prop := typesCheckSpecRow.holds Tryz.pinned (OpenSpec.ofChange typesCheckSpecSpec)

/-- ITS FALSE NEIGHBOUR: 'it returns false'. Refute it at one input. -/
def typesCheckSpecWrong : ChangeSpec := { name := "typesCheckSpec", fn := fun _ => fun
  | [d] => { results := [.lit (.bool false)], args := [d] }
  | _ => none }
def TypesCheckSpecWrongFalsely : Prop := typesCheckSpecRow.holds Tryz.pinned (OpenSpec.ofChange typesCheckSpecWrong)

/-- 'backflushlaw12.TypesAmountSpec': WHATEVER THE INPUT: true; the input reads as it did. -/
def typesAmountSpecSpec : ChangeSpec := { name := "typesAmountSpec", fn := fun _ => fun
  | [d1, d2] => { results := [.lit (.bool true)], args := [d1, d2] }
  | _ => none }
def typesAmountSpecRow : OpenClaim := { program := "ytdcdejhobblbpaagreatdoor", sum := "dee928b077065626ac23c3af7f5189c7e92b54a6c5e01a8f95afb672371ceab8", func := "backflush/backflushlaw12.TypesAmountSpec", spec := "typesAmountSpec", inPlace := ["math/bits.Add64", "math/bits.Sub64"], unfollowed := true, recurses := true, named := ["math/bits.deBruijn64tab", "math/bits.divideError", "math/bits.overflowError"], apart := false, laid := [("math/bits.deBruijn64tab", laid_math_bits_deBruijn64tab)] }
def TypesAmountSpecSaid : Prop := typesAmountSpecRow.holds Tryz.pinned (OpenSpec.ofChange typesAmountSpecSpec)

/-- ITS FALSE NEIGHBOUR: 'it returns false'. Refute it at one input. -/
def typesAmountSpecWrong : ChangeSpec := { name := "typesAmountSpec", fn := fun _ => fun
  | [d1, d2] => { results := [.lit (.bool false)], args := [d1, d2] }
  | _ => none }
def TypesAmountSpecWrongFalsely : Prop := typesAmountSpecRow.holds Tryz.pinned (OpenSpec.ofChange typesAmountSpecWrong)

/-- 'backflushlaw12.TypesTyped': WHATEVER THE INPUT: true; the input reads as it did. -/
def typesTypedSpec : ChangeSpec := { name := "typesTyped", fn := fun _ => fun
  | [d] => { results := [.lit (.bool true)], args := [d] }
  | _ => none }
def typesTypedRow : OpenClaim := { program := "ytdcdejhobblbpaagreatdoor", sum := "dee928b077065626ac23c3af7f5189c7e92b54a6c5e01a8f95afb672371ceab8", func := "backflush/backflushlaw12.TypesTyped", spec := "typesTyped", inPlace := ["math/bits.Add64", "math/bits.Sub64"], unfollowed := true, recurses := true, named := ["math/bits.deBruijn64tab", "math/bits.divideError", "math/bits.overflowError"], apart := false, laid := [("math/bits.deBruijn64tab", laid_math_bits_deBruijn64tab)] }
def TypesTypedSaid : Prop := typesTypedRow.holds Tryz.pinned (OpenSpec.ofChange typesTypedSpec)

/-- ITS FALSE NEIGHBOUR: 'it returns false'. Refute it at one input. -/
def typesTypedWrong : ChangeSpec := { name := "typesTyped", fn := fun _ => fun
  | [d] => { results := [.lit (.bool false)], args := [d] }
  | _ => none }
def TypesTypedWrongFalsely : Prop := typesTypedRow.holds Tryz.pinned (OpenSpec.ofChange typesTypedWrong)

/-- 'backflushlaw12.TypesRecipes': WHATEVER THE INPUT: true; the input reads as it did. -/
def typesRecipesSpec : ChangeSpec := { name := "typesRecipes", fn := fun _ => fun
  | [d] => { results := [.lit (.bool true)], args := [d] }
  | _ => none }
def typesRecipesRow : OpenClaim := { program := "ytdcdejhobblbpaagreatdoor", sum := "dee928b077065626ac23c3af7f5189c7e92b54a6c5e01a8f95afb672371ceab8", func := "backflush/backflushlaw12.TypesRecipes", spec := "typesRecipes", inPlace := ["math/bits.Add64", "math/bits.Sub64"], unfollowed := true, recurses := true, named := ["math/bits.deBruijn64tab", "math/bits.divideError", "math/bits.overflowError"], apart := false, laid := [("math/bits.deBruijn64tab", laid_math_bits_deBruijn64tab)] }
def TypesRecipesSaid : Prop := typesRecipesRow.holds Tryz.pinned (OpenSpec.ofChange typesRecipesSpec)

/-- ITS FALSE NEIGHBOUR: 'it returns false'. Refute it at one input. -/
def typesRecipesWrong : ChangeSpec := { name := "typesRecipes", fn := fun _ => fun
  | [d] => { results := [.lit (.bool false)], args := [d] }
  | _ => none }
def TypesRecipesWrongFalsely : Prop := typesRecipesRow.holds Tryz.pinned (OpenSpec.ofChange typesRecipesWrong)

/-- 'backflushlaw12.TypesUnits': WHATEVER THE INPUT: true; the input reads as it did. -/
def typesUnitsSpec : ChangeSpec := { name := "typesUnits", fn := fun _ => fun
  | [d1, d2, d3, d4, d5] => { results := [.lit (.bool true)], args := [d1, d2, d3, d4, d5] }
  | _ => none }
def typesUnitsRow : OpenClaim := { program := "ytdcdejhobblbpaagreatdoor", sum := "dee928b077065626ac23c3af7f5189c7e92b54a6c5e01a8f95afb672371ceab8", func := "backflush/backflushlaw12.TypesUnits", spec := "typesUnits", inPlace := ["math/bits.Add64", "math/bits.Sub64"], unfollowed := true, recurses := true, named := ["math/bits.deBruijn64tab", "math/bits.divideError", "math/bits.overflowError"], apart := false, laid := [("math/bits.deBruijn64tab", laid_math_bits_deBruijn64tab)] }
def TypesUnitsSaid : Prop := typesUnitsRow.holds Tryz.pinned (OpenSpec.ofChange typesUnitsSpec)

/-- ITS FALSE NEIGHBOUR: 'it returns false'. Refute it at one input. -/
def typesUnitsWrong : ChangeSpec := { name := "typesUnits", fn := fun _ => fun
  | [d1, d2, d3, d4, d5] => { results := [.lit (.bool false)], args := [d1, d2, d3, d4, d5] }
  | _ => none }
def TypesUnitsWrongFalsely : Prop := typesUnitsRow.holds Tryz.pinned (OpenSpec.ofChange typesUnitsWrong)

/-- 'backflushlaw12.TypesScale': WHATEVER THE INPUT: true; the input reads as it did. -/
def typesScaleSpec : ChangeSpec := { name := "typesScale", fn := fun _ => fun
  | [d1, d2, d3] => { results := [.lit (.bool true)], args := [d1, d2, d3] }
  | _ => none }
def typesScaleRow : OpenClaim := { program := "ytdcdejhobblbpaagreatdoor", sum := "dee928b077065626ac23c3af7f5189c7e92b54a6c5e01a8f95afb672371ceab8", func := "backflush/backflushlaw12.TypesScale", spec := "typesScale", inPlace := ["math/bits.Add64", "math/bits.Sub64"], unfollowed := true, recurses := true, named := ["math/bits.deBruijn64tab", "math/bits.divideError", "math/bits.overflowError"], apart := false, laid := [("math/bits.deBruijn64tab", laid_math_bits_deBruijn64tab)] }
def TypesScaleSaid : Prop := typesScaleRow.holds Tryz.pinned (OpenSpec.ofChange typesScaleSpec)

/-- ITS FALSE NEIGHBOUR: 'it returns false'. Refute it at one input. -/
def typesScaleWrong : ChangeSpec := { name := "typesScale", fn := fun _ => fun
  | [d1, d2, d3] => { results := [.lit (.bool false)], args := [d1, d2, d3] }
  | _ => none }
def TypesScaleWrongFalsely : Prop := typesScaleRow.holds Tryz.pinned (OpenSpec.ofChange typesScaleWrong)

/-- 'backflushlaw12.TypesFewer': WHATEVER THE INPUT: true; the input reads as it did. -/
def typesFewerSpec : ChangeSpec := { name := "typesFewer", fn := fun _ => fun
  | [d1, d2, d3] => { results := [.lit (.bool true)], args := [d1, d2, d3] }
  | _ => none }
def typesFewerRow : OpenClaim := { program := "ytdcdejhobblbpaagreatdoor", sum := "dee928b077065626ac23c3af7f5189c7e92b54a6c5e01a8f95afb672371ceab8", func := "backflush/backflushlaw12.TypesFewer", spec := "typesFewer", inPlace := ["math/bits.Add64", "math/bits.Sub64"], unfollowed := true, recurses := true, named := ["math/bits.deBruijn64tab", "math/bits.divideError", "math/bits.overflowError"], apart := false, laid := [("math/bits.deBruijn64tab", laid_math_bits_deBruijn64tab)] }
def TypesFewerSaid : Prop := typesFewerRow.holds Tryz.pinned (OpenSpec.ofChange typesFewerSpec)

/-- ITS FALSE NEIGHBOUR: 'it returns false'. Refute it at one input. -/
def typesFewerWrong : ChangeSpec := { name := "typesFewer", fn := fun _ => fun
  | [d1, d2, d3] => { results := [.lit (.bool false)], args := [d1, d2, d3] }
  | _ => none }
def TypesFewerWrongFalsely : Prop := typesFewerRow.holds Tryz.pinned (OpenSpec.ofChange typesFewerWrong)

/- THE SECOND FORM. 'bulk': how many values and letters a reading holds, each counted each time it is reached (what is shared counts as often as it is met; a slice's spare places count too). A statement '..UptoSaid' is the law's where the arguments, and the package variables that the reading takes, are together of bulk at most 1048576: NARROWER than '..Said'. Prove '..Said' where nothing that the law and all that it calls make is longer than what came in: it says more and counts as full. Else prove '..UptoSaid'. A law counts once. -/
mutual
def uptoBulk {H : Type} : DataW H → Nat
  | .lit (.string bytes) => bytes.length + 1
  | .lit _ => 1
  | .nil => 1
  | .ptr d => uptoBulk d + 1
  | .slice elems spare => uptoBulkAll elems + uptoBulkAll spare + 1
  | .agg parts => uptoBulkAll parts + 1
  | .iface _ d => uptoBulk d + 1
  | .map entries => uptoBulkEntries entries + 1
  | .held _ => 1
def uptoBulkAll {H : Type} : List (DataW H) → Nat
  | [] => 0
  | d :: r => uptoBulk d + uptoBulkAll r
def uptoBulkEntries {H : Type} : List (Lit × DataW H) → Nat
  | [] => 0
  | x :: r => uptoBulkEntry x + uptoBulkEntries r
def uptoBulkEntry {H : Type} : Lit × DataW H → Nat
  | (.string bytes, d) => bytes.length + uptoBulk d + 1
  | (_, d) => uptoBulk d + 1
 end
def uptoSmall : (H : Type) → List (DataW H) → Bool := fun _ ds => decide (uptoBulkAll ds ≤ 1048576)
def OpenSpec.upto (s : _root_.Go.ChangeSpec) : _root_.Go.OpenSpec := { _root_.Go.OpenSpec.ofChange s with cond := some uptoSmall }

/-- 'backflushlaw12.TypesCheckSpec', WHERE WHAT IT READS IS OF BULK AT MOST 1048576: true; the input reads as it did. -/
def typesCheckSpecUptoRow : OpenClaim := { program := "ytdcdejhobblbpaagreatdoor", sum := "dee928b077065626ac23c3af7f5189c7e92b54a6c5e01a8f95afb672371ceab8", func := "backflush/backflushlaw12.TypesCheckSpec", spec := "typesCheckSpec", inPlace := ["math/bits.Add64", "math/bits.Sub64"], unfollowed := true, recurses := true, named := ["math/bits.deBruijn64tab", "math/bits.divideError", "math/bits.overflowError"], apart := false, laid := [("math/bits.deBruijn64tab", laid_math_bits_deBruijn64tab)], narrowed := true }
def TypesCheckSpecUptoSaid : Prop := typesCheckSpecUptoRow.holds Tryz.pinned (OpenSpec.upto typesCheckSpecSpec)

/-- 'backflushlaw12.TypesAmountSpec', WHERE WHAT IT READS IS OF BULK AT MOST 1048576: true; the input reads as it did. -/
def typesAmountSpecUptoRow : OpenClaim := { program := "ytdcdejhobblbpaagreatdoor", sum := "dee928b077065626ac23c3af7f5189c7e92b54a6c5e01a8f95afb672371ceab8", func := "backflush/backflushlaw12.TypesAmountSpec", spec := "typesAmountSpec", inPlace := ["math/bits.Add64", "math/bits.Sub64"], unfollowed := true, recurses := true, named := ["math/bits.deBruijn64tab", "math/bits.divideError", "math/bits.overflowError"], apart := false, laid := [("math/bits.deBruijn64tab", laid_math_bits_deBruijn64tab)], narrowed := true }
def TypesAmountSpecUptoSaid : Prop := typesAmountSpecUptoRow.holds Tryz.pinned (OpenSpec.upto typesAmountSpecSpec)

/-- 'backflushlaw12.TypesTyped', WHERE WHAT IT READS IS OF BULK AT MOST 1048576: true; the input reads as it did. -/
def typesTypedUptoRow : OpenClaim := { program := "ytdcdejhobblbpaagreatdoor", sum := "dee928b077065626ac23c3af7f5189c7e92b54a6c5e01a8f95afb672371ceab8", func := "backflush/backflushlaw12.TypesTyped", spec := "typesTyped", inPlace := ["math/bits.Add64", "math/bits.Sub64"], unfollowed := true, recurses := true, named := ["math/bits.deBruijn64tab", "math/bits.divideError", "math/bits.overflowError"], apart := false, laid := [("math/bits.deBruijn64tab", laid_math_bits_deBruijn64tab)], narrowed := true }
def TypesTypedUptoSaid : Prop := typesTypedUptoRow.holds Tryz.pinned (OpenSpec.upto typesTypedSpec)

/-- 'backflushlaw12.TypesRecipes', WHERE WHAT IT READS IS OF BULK AT MOST 1048576: true; the input reads as it did. -/
def typesRecipesUptoRow : OpenClaim := { program := "ytdcdejhobblbpaagreatdoor", sum := "dee928b077065626ac23c3af7f5189c7e92b54a6c5e01a8f95afb672371ceab8", func := "backflush/backflushlaw12.TypesRecipes", spec := "typesRecipes", inPlace := ["math/bits.Add64", "math/bits.Sub64"], unfollowed := true, recurses := true, named := ["math/bits.deBruijn64tab", "math/bits.divideError", "math/bits.overflowError"], apart := false, laid := [("math/bits.deBruijn64tab", laid_math_bits_deBruijn64tab)], narrowed := true }
def TypesRecipesUptoSaid : Prop := typesRecipesUptoRow.holds Tryz.pinned (OpenSpec.upto typesRecipesSpec)

/-- 'backflushlaw12.TypesUnits', WHERE WHAT IT READS IS OF BULK AT MOST 1048576: true; the input reads as it did. -/
def typesUnitsUptoRow : OpenClaim := { program := "ytdcdejhobblbpaagreatdoor", sum := "dee928b077065626ac23c3af7f5189c7e92b54a6c5e01a8f95afb672371ceab8", func := "backflush/backflushlaw12.TypesUnits", spec := "typesUnits", inPlace := ["math/bits.Add64", "math/bits.Sub64"], unfollowed := true, recurses := true, named := ["math/bits.deBruijn64tab", "math/bits.divideError", "math/bits.overflowError"], apart := false, laid := [("math/bits.deBruijn64tab", laid_math_bits_deBruijn64tab)], narrowed := true }
def TypesUnitsUptoSaid : Prop := typesUnitsUptoRow.holds Tryz.pinned (OpenSpec.upto typesUnitsSpec)

/-- 'backflushlaw12.TypesScale', WHERE WHAT IT READS IS OF BULK AT MOST 1048576: true; the input reads as it did. -/
def typesScaleUptoRow : OpenClaim := { program := "ytdcdejhobblbpaagreatdoor", sum := "dee928b077065626ac23c3af7f5189c7e92b54a6c5e01a8f95afb672371ceab8", func := "backflush/backflushlaw12.TypesScale", spec := "typesScale", inPlace := ["math/bits.Add64", "math/bits.Sub64"], unfollowed := true, recurses := true, named := ["math/bits.deBruijn64tab", "math/bits.divideError", "math/bits.overflowError"], apart := false, laid := [("math/bits.deBruijn64tab", laid_math_bits_deBruijn64tab)], narrowed := true }
def TypesScaleUptoSaid : Prop := typesScaleUptoRow.holds Tryz.pinned (OpenSpec.upto typesScaleSpec)

/-- 'backflushlaw12.TypesFewer', WHERE WHAT IT READS IS OF BULK AT MOST 1048576: true; the input reads as it did. -/
def typesFewerUptoRow : OpenClaim := { program := "ytdcdejhobblbpaagreatdoor", sum := "dee928b077065626ac23c3af7f5189c7e92b54a6c5e01a8f95afb672371ceab8", func := "backflush/backflushlaw12.TypesFewer", spec := "typesFewer", inPlace := ["math/bits.Add64", "math/bits.Sub64"], unfollowed := true, recurses := true, named := ["math/bits.deBruijn64tab", "math/bits.divideError", "math/bits.overflowError"], apart := false, laid := [("math/bits.deBruijn64tab", laid_math_bits_deBruijn64tab)], narrowed := true }
def TypesFewerUptoSaid : Prop := typesFewerUptoRow.holds Tryz.pinned (OpenSpec.upto typesFewerSpec)

end Rows
end Go.Proofs.YtdcdejhobblbpaaGreatDoor
