/-
  NARROWER THAN 'FOR EVERY INPUT', by the rows' own cells (each row's printed sentence says how): NaturalsBasicSpec: laid · NaturalsSumSpec: laid · NaturalsDivSpec: laid · NaturalsRest: laid · NaturalsRules: laid · NaturalsBack: laid · NaturalsGcd: laid · NaturalsInts: laid.
  DERIVED. THE GIVEN ROWS OF THIS SEAT. 8 by the template 'for every input the law returns true; each argument reads behind the call as it read before'; 0 by the template 'total and deterministic' (their statements: YtehlghcpbmbfkaaDoorTotals.lean).
  GIVEN WITH THE SEED: the statements are not yours to turn. If you find one false, say at which input.
  Laid BY PROGRAM, IN A SANDBOX (cutbox-rows.mjs): the forced cells as the released guide's own fill.sh prints them over the translation 6fd1aafbc219517a… (all of the seat's roots in one cut). By AI agents, Wed Nov 11 2026. No macro, syntax, notation, axiom, sorry.
-/
import Derived.Test.YtehlghcpbmbfkaaDoorChecked
import GoSem.Claim
import GoSem.ClaimJoined
import GoSem.ClaimMapViews
import Derived.JoinedTies
import Derived.KernelRfl
namespace Go.Proofs.YtehlghcpbmbfkaaDoor
/- THE CELL 'sum', in the pinned program and in every row, IS THE sha256 OF THE DUMP (.gsa) THAT YtehlghcpbmbfkaaDoorProg.lean LOADS. Nothing in Lean hashes anything: it is a label: what it is worth is what the hold of that sum in a sandbox is worth. -/
noncomputable def Tryd.pinned : Pinned := { name := "ytehlghcpbmbfkaadoor", sum := "6fd1aafbc219517ae1a54c2da6e4577291544c8d824213f7f6764065db9be332", checked := Tryd.checked }
namespace Rows
def none {H : Type} : Left H := { results := [], args := [] }

/- WHAT THE LISTED PACKAGE-LEVEL VARIABLES READ AS WHEN THE CALL BEGINS. Each datum BY PROGRAM (the guide's laid-datum.mjs) off the statement by which the dump's own 'gosem.cut.vars' lays the variable. In a bare row this is a premise. The card (YtehlghcpbmbfkaaDoorCards.lean) ties it to the program's text. -/
def laid_math_bits_deBruijn64tab {H : Type} : DataW H := .agg [.lit (.int .u8 0), .lit (.int .u8 1), .lit (.int .u8 56), .lit (.int .u8 2), .lit (.int .u8 57), .lit (.int .u8 49), .lit (.int .u8 28), .lit (.int .u8 3), .lit (.int .u8 61), .lit (.int .u8 58), .lit (.int .u8 42), .lit (.int .u8 50), .lit (.int .u8 38), .lit (.int .u8 29), .lit (.int .u8 17), .lit (.int .u8 4), .lit (.int .u8 62), .lit (.int .u8 47), .lit (.int .u8 59), .lit (.int .u8 36), .lit (.int .u8 45), .lit (.int .u8 43), .lit (.int .u8 51), .lit (.int .u8 22), .lit (.int .u8 53), .lit (.int .u8 39), .lit (.int .u8 33), .lit (.int .u8 30), .lit (.int .u8 24), .lit (.int .u8 18), .lit (.int .u8 12), .lit (.int .u8 5), .lit (.int .u8 63), .lit (.int .u8 55), .lit (.int .u8 48), .lit (.int .u8 27), .lit (.int .u8 60), .lit (.int .u8 41), .lit (.int .u8 37), .lit (.int .u8 16), .lit (.int .u8 46), .lit (.int .u8 35), .lit (.int .u8 44), .lit (.int .u8 21), .lit (.int .u8 52), .lit (.int .u8 32), .lit (.int .u8 23), .lit (.int .u8 11), .lit (.int .u8 54), .lit (.int .u8 26), .lit (.int .u8 40), .lit (.int .u8 15), .lit (.int .u8 34), .lit (.int .u8 20), .lit (.int .u8 31), .lit (.int .u8 10), .lit (.int .u8 25), .lit (.int .u8 14), .lit (.int .u8 19), .lit (.int .u8 9), .lit (.int .u8 13), .lit (.int .u8 8), .lit (.int .u8 7), .lit (.int .u8 6)]

/-- 'backflushlaw06.NaturalsBasicSpec': WHATEVER THE INPUT: true; the input reads as it did. -/
def naturalsBasicSpecSpec : ChangeSpec := { name := "naturalsBasicSpec", fn := fun _ => fun
  | [d1, d2, d3] => { results := [.lit (.bool true)], args := [d1, d2, d3] }
  | _ => none }
def naturalsBasicSpecRow : OpenClaim := { program := "ytehlghcpbmbfkaadoor", sum := "6fd1aafbc219517ae1a54c2da6e4577291544c8d824213f7f6764065db9be332", func := "backflush/backflushlaw06.NaturalsBasicSpec", spec := "naturalsBasicSpec", inPlace := ["math/bits.Add64", "math/bits.Sub64"], unfollowed := true, recurses := true, named := ["math/bits.divideError", "math/bits.overflowError", "math/bits.deBruijn64tab"], apart := false, laid := [("math/bits.deBruijn64tab", laid_math_bits_deBruijn64tab)] }
def NaturalsBasicSpecSaid : Prop := naturalsBasicSpecRow.holds Tryd.pinned (OpenSpec.ofChange naturalsBasicSpecSpec)

/-- ITS FALSE NEIGHBOUR: 'it returns false'. Refute it at one input. -/
def naturalsBasicSpecWrong : ChangeSpec := { name := "naturalsBasicSpec", fn := fun _ => fun
  | [d1, d2, d3] => { results := [.lit (.bool false)], args := [d1, d2, d3] }
  | _ => none }
def NaturalsBasicSpecWrongFalsely : Prop := naturalsBasicSpecRow.holds Tryd.pinned (OpenSpec.ofChange naturalsBasicSpecWrong)

/-- 'backflushlaw06.NaturalsSumSpec': WHATEVER THE INPUT: true; the input reads as it did. -/
def naturalsSumSpecSpec : ChangeSpec := { name := "naturalsSumSpec", fn := fun _ => fun
  | [d1, d2] => { results := [.lit (.bool true)], args := [d1, d2] }
  | _ => none }
def naturalsSumSpecRow : OpenClaim := { program := "ytehlghcpbmbfkaadoor", sum := "6fd1aafbc219517ae1a54c2da6e4577291544c8d824213f7f6764065db9be332", func := "backflush/backflushlaw06.NaturalsSumSpec", spec := "naturalsSumSpec", inPlace := ["math/bits.Add64", "math/bits.Sub64"], unfollowed := true, recurses := true, named := ["math/bits.divideError", "math/bits.overflowError", "math/bits.deBruijn64tab"], apart := false, laid := [("math/bits.deBruijn64tab", laid_math_bits_deBruijn64tab)] }
def NaturalsSumSpecSaid : Prop := naturalsSumSpecRow.holds Tryd.pinned (OpenSpec.ofChange naturalsSumSpecSpec)

/-- ITS FALSE NEIGHBOUR: 'it returns false'. Refute it at one input. -/
def naturalsSumSpecWrong : ChangeSpec := { name := "naturalsSumSpec", fn := fun _ => fun
  | [d1, d2] => { results := [.lit (.bool false)], args := [d1, d2] }
  | _ => none }
def NaturalsSumSpecWrongFalsely : Prop := naturalsSumSpecRow.holds Tryd.pinned (OpenSpec.ofChange naturalsSumSpecWrong)

/-- 'backflushlaw06.NaturalsDivSpec': WHATEVER THE INPUT: true; the input reads as it did. -/
def naturalsDivSpecSpec : ChangeSpec := { name := "naturalsDivSpec", fn := fun _ => fun
  | [d1, d2] => { results := [.lit (.bool true)], args := [d1, d2] }
  | _ => none }
def naturalsDivSpecRow : OpenClaim := { program := "ytehlghcpbmbfkaadoor", sum := "6fd1aafbc219517ae1a54c2da6e4577291544c8d824213f7f6764065db9be332", func := "backflush/backflushlaw06.NaturalsDivSpec", spec := "naturalsDivSpec", inPlace := ["math/bits.Add64", "math/bits.Sub64"], unfollowed := true, recurses := true, named := ["math/bits.divideError", "math/bits.overflowError", "math/bits.deBruijn64tab"], apart := false, laid := [("math/bits.deBruijn64tab", laid_math_bits_deBruijn64tab)] }
def NaturalsDivSpecSaid : Prop := naturalsDivSpecRow.holds Tryd.pinned (OpenSpec.ofChange naturalsDivSpecSpec)

/-- ITS FALSE NEIGHBOUR: 'it returns false'. Refute it at one input. -/
def naturalsDivSpecWrong : ChangeSpec := { name := "naturalsDivSpec", fn := fun _ => fun
  | [d1, d2] => { results := [.lit (.bool false)], args := [d1, d2] }
  | _ => none }
def NaturalsDivSpecWrongFalsely : Prop := naturalsDivSpecRow.holds Tryd.pinned (OpenSpec.ofChange naturalsDivSpecWrong)

/-- 'backflushlaw06.NaturalsRest': WHATEVER THE INPUT: true; the input reads as it did. -/
def naturalsRestSpec : ChangeSpec := { name := "naturalsRest", fn := fun _ => fun
  | [d1, d2] => { results := [.lit (.bool true)], args := [d1, d2] }
  | _ => none }
def naturalsRestRow : OpenClaim := { program := "ytehlghcpbmbfkaadoor", sum := "6fd1aafbc219517ae1a54c2da6e4577291544c8d824213f7f6764065db9be332", func := "backflush/backflushlaw06.NaturalsRest", spec := "naturalsRest", inPlace := ["math/bits.Add64", "math/bits.Sub64"], unfollowed := true, recurses := true, named := ["math/bits.divideError", "math/bits.overflowError", "math/bits.deBruijn64tab"], apart := false, laid := [("math/bits.deBruijn64tab", laid_math_bits_deBruijn64tab)] }
def NaturalsRestSaid : Prop := naturalsRestRow.holds Tryd.pinned (OpenSpec.ofChange naturalsRestSpec)

/-- ITS FALSE NEIGHBOUR: 'it returns false'. Refute it at one input. -/
def naturalsRestWrong : ChangeSpec := { name := "naturalsRest", fn := fun _ => fun
  | [d1, d2] => { results := [.lit (.bool false)], args := [d1, d2] }
  | _ => none }
def NaturalsRestWrongFalsely : Prop := naturalsRestRow.holds Tryd.pinned (OpenSpec.ofChange naturalsRestWrong)

/-- 'backflushlaw06.NaturalsRules': WHATEVER THE INPUT: true; the input reads as it did. -/
def naturalsRulesSpec : ChangeSpec := { name := "naturalsRules", fn := fun _ => fun
  | [d1, d2, d3] => { results := [.lit (.bool true)], args := [d1, d2, d3] }
  | _ => none }
def naturalsRulesRow : OpenClaim := { program := "ytehlghcpbmbfkaadoor", sum := "6fd1aafbc219517ae1a54c2da6e4577291544c8d824213f7f6764065db9be332", func := "backflush/backflushlaw06.NaturalsRules", spec := "naturalsRules", inPlace := ["math/bits.Add64", "math/bits.Sub64"], unfollowed := true, recurses := true, named := ["math/bits.divideError", "math/bits.overflowError", "math/bits.deBruijn64tab"], apart := false, laid := [("math/bits.deBruijn64tab", laid_math_bits_deBruijn64tab)] }
def NaturalsRulesSaid : Prop := naturalsRulesRow.holds Tryd.pinned (OpenSpec.ofChange naturalsRulesSpec)

/-- ITS FALSE NEIGHBOUR: 'it returns false'. Refute it at one input. -/
def naturalsRulesWrong : ChangeSpec := { name := "naturalsRules", fn := fun _ => fun
  | [d1, d2, d3] => { results := [.lit (.bool false)], args := [d1, d2, d3] }
  | _ => none }
def NaturalsRulesWrongFalsely : Prop := naturalsRulesRow.holds Tryd.pinned (OpenSpec.ofChange naturalsRulesWrong)

/-- 'backflushlaw06.NaturalsBack': WHATEVER THE INPUT: true; the input reads as it did. -/
def naturalsBackSpec : ChangeSpec := { name := "naturalsBack", fn := fun _ => fun
  | [d1, d2] => { results := [.lit (.bool true)], args := [d1, d2] }
  | _ => none }
def naturalsBackRow : OpenClaim := { program := "ytehlghcpbmbfkaadoor", sum := "6fd1aafbc219517ae1a54c2da6e4577291544c8d824213f7f6764065db9be332", func := "backflush/backflushlaw06.NaturalsBack", spec := "naturalsBack", inPlace := ["math/bits.Add64", "math/bits.Sub64"], unfollowed := true, recurses := true, named := ["math/bits.divideError", "math/bits.overflowError", "math/bits.deBruijn64tab"], apart := false, laid := [("math/bits.deBruijn64tab", laid_math_bits_deBruijn64tab)] }
def NaturalsBackSaid : Prop := naturalsBackRow.holds Tryd.pinned (OpenSpec.ofChange naturalsBackSpec)

/-- ITS FALSE NEIGHBOUR: 'it returns false'. Refute it at one input. -/
def naturalsBackWrong : ChangeSpec := { name := "naturalsBack", fn := fun _ => fun
  | [d1, d2] => { results := [.lit (.bool false)], args := [d1, d2] }
  | _ => none }
def NaturalsBackWrongFalsely : Prop := naturalsBackRow.holds Tryd.pinned (OpenSpec.ofChange naturalsBackWrong)

/-- 'backflushlaw06.NaturalsGcd': WHATEVER THE INPUT: true; the input reads as it did. -/
def naturalsGcdSpec : ChangeSpec := { name := "naturalsGcd", fn := fun _ => fun
  | [d1, d2, d3] => { results := [.lit (.bool true)], args := [d1, d2, d3] }
  | _ => none }
def naturalsGcdRow : OpenClaim := { program := "ytehlghcpbmbfkaadoor", sum := "6fd1aafbc219517ae1a54c2da6e4577291544c8d824213f7f6764065db9be332", func := "backflush/backflushlaw06.NaturalsGcd", spec := "naturalsGcd", inPlace := ["math/bits.Add64", "math/bits.Sub64"], unfollowed := true, recurses := true, named := ["math/bits.divideError", "math/bits.overflowError", "math/bits.deBruijn64tab"], apart := false, laid := [("math/bits.deBruijn64tab", laid_math_bits_deBruijn64tab)] }
def NaturalsGcdSaid : Prop := naturalsGcdRow.holds Tryd.pinned (OpenSpec.ofChange naturalsGcdSpec)

/-- ITS FALSE NEIGHBOUR: 'it returns false'. Refute it at one input. -/
def naturalsGcdWrong : ChangeSpec := { name := "naturalsGcd", fn := fun _ => fun
  | [d1, d2, d3] => { results := [.lit (.bool false)], args := [d1, d2, d3] }
  | _ => none }
def NaturalsGcdWrongFalsely : Prop := naturalsGcdRow.holds Tryd.pinned (OpenSpec.ofChange naturalsGcdWrong)

/-- 'backflushlaw06.NaturalsInts': WHATEVER THE INPUT: true; the input reads as it did. -/
def naturalsIntsSpec : ChangeSpec := { name := "naturalsInts", fn := fun _ => fun
  | [d1, d2] => { results := [.lit (.bool true)], args := [d1, d2] }
  | _ => none }
def naturalsIntsRow : OpenClaim := { program := "ytehlghcpbmbfkaadoor", sum := "6fd1aafbc219517ae1a54c2da6e4577291544c8d824213f7f6764065db9be332", func := "backflush/backflushlaw06.NaturalsInts", spec := "naturalsInts", inPlace := ["math/bits.Add64", "math/bits.Sub64"], unfollowed := true, recurses := true, named := ["math/bits.divideError", "math/bits.overflowError", "math/bits.deBruijn64tab"], apart := false, laid := [("math/bits.deBruijn64tab", laid_math_bits_deBruijn64tab)] }
def NaturalsIntsSaid : Prop := naturalsIntsRow.holds Tryd.pinned (OpenSpec.ofChange naturalsIntsSpec)

/-- ITS FALSE NEIGHBOUR: 'it returns false'. Refute it at one input. -/
def naturalsIntsWrong : ChangeSpec := { name := "naturalsInts", fn := fun _ => fun
  | [d1, d2] => { results := [.lit (.bool false)], args := [d1, d2] }
  | _ => none }
def NaturalsIntsWrongFalsely : Prop := naturalsIntsRow.holds Tryd.pinned (OpenSpec.ofChange naturalsIntsWrong)

/- THE SECOND FORM. 'bulk': how many values and letters a reading holds, each counted each time it is reached (what is shared counts as often as it is met; a slice's spare places count too). A statement '..UptoSaid' is the law's where the arguments, and the package variables that the reading takes, are together of bulk at most 1048576: NARROWER than '..Said'. Prove '..Said' where nothing that the law and all that it calls make is longer than what came in: it says more and counts as full. Else prove '..UptoSaid'. A law counts once. -/
mutual
def uptoBulk {H : Type} : DataW H → Nat
  | .lit (.string bytes) => bytes.length + 1
  | .lit _ => 1
  | .nil => 1
  | .ptr d => uptoBulk d + 1
  | .slice elems spare => uptoBulkAll elems + uptoBulkAll spare + 1
  | .agg parts => uptoBulkAll parts + 1
  | .iface _ d => uptoBulk d + 1
  | .map entries => uptoBulkEntries entries + 1
  | .held _ => 1
def uptoBulkAll {H : Type} : List (DataW H) → Nat
  | [] => 0
  | d :: r => uptoBulk d + uptoBulkAll r
def uptoBulkEntries {H : Type} : List (Lit × DataW H) → Nat
  | [] => 0
  | x :: r => uptoBulkEntry x + uptoBulkEntries r
def uptoBulkEntry {H : Type} : Lit × DataW H → Nat
  | (.string bytes, d) => bytes.length + uptoBulk d + 1
  | (_, d) => uptoBulk d + 1
 end
def uptoSmall : (H : Type) → List (DataW H) → Bool := fun _ ds => decide (uptoBulkAll ds ≤ 1048576)
def OpenSpec.upto (s : _root_.Go.ChangeSpec) : _root_.Go.OpenSpec := { _root_.Go.OpenSpec.ofChange s with cond := some uptoSmall }

/-- 'backflushlaw06.NaturalsBasicSpec', WHERE WHAT IT READS IS OF BULK AT MOST 1048576: true; the input reads as it did. -/
def naturalsBasicSpecUptoRow : OpenClaim := { program := "ytehlghcpbmbfkaadoor", sum := "6fd1aafbc219517ae1a54c2da6e4577291544c8d824213f7f6764065db9be332", func := "backflush/backflushlaw06.NaturalsBasicSpec", spec := "naturalsBasicSpec", inPlace := ["math/bits.Add64", "math/bits.Sub64"], unfollowed := true, recurses := true, named := ["math/bits.divideError", "math/bits.overflowError", "math/bits.deBruijn64tab"], apart := false, laid := [("math/bits.deBruijn64tab", laid_math_bits_deBruijn64tab)], narrowed := true }
def NaturalsBasicSpecUptoSaid : Prop := naturalsBasicSpecUptoRow.holds Tryd.pinned (OpenSpec.upto naturalsBasicSpecSpec)

/-- 'backflushlaw06.NaturalsSumSpec', WHERE WHAT IT READS IS OF BULK AT MOST 1048576: true; the input reads as it did. -/
def naturalsSumSpecUptoRow : OpenClaim := { program := "ytehlghcpbmbfkaadoor", sum := "6fd1aafbc219517ae1a54c2da6e4577291544c8d824213f7f6764065db9be332", func := "backflush/backflushlaw06.NaturalsSumSpec", spec := "naturalsSumSpec", inPlace := ["math/bits.Add64", "math/bits.Sub64"], unfollowed := true, recurses := true, named := ["math/bits.divideError", "math/bits.overflowError", "math/bits.deBruijn64tab"], apart := false, laid := [("math/bits.deBruijn64tab", laid_math_bits_deBruijn64tab)], narrowed := true }
def NaturalsSumSpecUptoSaid : Prop := naturalsSumSpecUptoRow.holds Tryd.pinned (OpenSpec.upto naturalsSumSpecSpec)

/-- 'backflushlaw06.NaturalsDivSpec', WHERE WHAT IT READS IS OF BULK AT MOST 1048576: true; the input reads as it did. -/
def naturalsDivSpecUptoRow : OpenClaim := { program := "ytehlghcpbmbfkaadoor", sum := "6fd1aafbc219517ae1a54c2da6e4577291544c8d824213f7f6764065db9be332", func := "backflush/backflushlaw06.NaturalsDivSpec", spec := "naturalsDivSpec", inPlace := ["math/bits.Add64", "math/bits.Sub64"], unfollowed := true, recurses := true, named := ["math/bits.divideError", "math/bits.overflowError", "math/bits.deBruijn64tab"], apart := false, laid := [("math/bits.deBruijn64tab", laid_math_bits_deBruijn64tab)], narrowed := true }
def NaturalsDivSpecUptoSaid : Prop := naturalsDivSpecUptoRow.holds Tryd.pinned (OpenSpec.upto naturalsDivSpecSpec)

/-- 'backflushlaw06.NaturalsRest', WHERE WHAT IT READS IS OF BULK AT MOST 1048576: true; the input reads as it did. -/
def naturalsRestUptoRow : OpenClaim := { program := "ytehlghcpbmbfkaadoor", sum := "6fd1aafbc219517ae1a54c2da6e4577291544c8d824213f7f6764065db9be332", func := "backflush/backflushlaw06.NaturalsRest", spec := "naturalsRest", inPlace := ["math/bits.Add64", "math/bits.Sub64"], unfollowed := true, recurses := true, named := ["math/bits.divideError", "math/bits.overflowError", "math/bits.deBruijn64tab"], apart := false, laid := [("math/bits.deBruijn64tab", laid_math_bits_deBruijn64tab)], narrowed := true }
def NaturalsRestUptoSaid : Prop := naturalsRestUptoRow.holds Tryd.pinned (OpenSpec.upto naturalsRestSpec)

/-- 'backflushlaw06.NaturalsRules', WHERE WHAT IT READS IS OF BULK AT MOST 1048576: true; the input reads as it did. -/
def naturalsRulesUptoRow : OpenClaim := { program := "ytehlghcpbmbfkaadoor", sum := "6fd1aafbc219517ae1a54c2da6e4577291544c8d824213f7f6764065db9be332", func := "backflush/backflushlaw06.NaturalsRules", spec := "naturalsRules", inPlace := ["math/bits.Add64", "math/bits.Sub64"], unfollowed := true, recurses := true, named := ["math/bits.divideError", "math/bits.overflowError", "math/bits.deBruijn64tab"], apart := false, laid := [("math/bits.deBruijn64tab", laid_math_bits_deBruijn64tab)], narrowed := true }
def NaturalsRulesUptoSaid : Prop := naturalsRulesUptoRow.holds Tryd.pinned (OpenSpec.upto naturalsRulesSpec)

/-- 'backflushlaw06.NaturalsBack', WHERE WHAT IT READS IS OF BULK AT MOST 1048576: true; the input reads as it did. -/
def naturalsBackUptoRow : OpenClaim := { program := "ytehlghcpbmbfkaadoor", sum := "6fd1aafbc219517ae1a54c2da6e4577291544c8d824213f7f6764065db9be332", func := "backflush/backflushlaw06.NaturalsBack", spec := "naturalsBack", inPlace := ["math/bits.Add64", "math/bits.Sub64"], unfollowed := true, recurses := true, named := ["math/bits.divideError", "math/bits.overflowError", "math/bits.deBruijn64tab"], apart := false, laid := [("math/bits.deBruijn64tab", laid_math_bits_deBruijn64tab)], narrowed := true }
def NaturalsBackUptoSaid : Prop := naturalsBackUptoRow.holds Tryd.pinned (OpenSpec.upto naturalsBackSpec)

/-- 'backflushlaw06.NaturalsGcd', WHERE WHAT IT READS IS OF BULK AT MOST 1048576: true; the input reads as it did. -/
def naturalsGcdUptoRow : OpenClaim := { program := "ytehlghcpbmbfkaadoor", sum := "6fd1aafbc219517ae1a54c2da6e4577291544c8d824213f7f6764065db9be332", func := "backflush/backflushlaw06.NaturalsGcd", spec := "naturalsGcd", inPlace := ["math/bits.Add64", "math/bits.Sub64"], unfollowed := true, recurses := true, named := ["math/bits.divideError", "math/bits.overflowError", "math/bits.deBruijn64tab"], apart := false, laid := [("math/bits.deBruijn64tab", laid_math_bits_deBruijn64tab)], narrowed := true }
def NaturalsGcdUptoSaid : Prop := naturalsGcdUptoRow.holds Tryd.pinned (OpenSpec.upto naturalsGcdSpec)

/-- 'backflushlaw06.NaturalsInts', WHERE WHAT IT READS IS OF BULK AT MOST 1048576: true; the input reads as it did. -/
def naturalsIntsUptoRow : OpenClaim := { program := "ytehlghcpbmbfkaadoor", sum := "6fd1aafbc219517ae1a54c2da6e4577291544c8d824213f7f6764065db9be332", func := "backflush/backflushlaw06.NaturalsInts", spec := "naturalsInts", inPlace := ["math/bits.Add64", "math/bits.Sub64"], unfollowed := true, recurses := true, named := ["math/bits.divideError", "math/bits.overflowError", "math/bits.deBruijn64tab"], apart := false, laid := [("math/bits.deBruijn64tab", laid_math_bits_deBruijn64tab)], narrowed := true }
def NaturalsIntsUptoSaid : Prop := naturalsIntsUptoRow.holds Tryd.pinned (OpenSpec.upto naturalsIntsSpec)

end Rows
end Go.Proofs.YtehlghcpbmbfkaaDoor
