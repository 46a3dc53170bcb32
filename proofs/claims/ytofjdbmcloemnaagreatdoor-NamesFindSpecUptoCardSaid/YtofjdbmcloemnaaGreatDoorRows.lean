/-
  NARROWER THAN 'FOR EVERY INPUT', by the rows' own cells (each row's printed sentence says how): NamesResolveSpec: laid · NamesMeans: laid · NamesAgain: laid · NamesTwice: laid · NamesMissing: laid · NamesFindSpec: laid.
  DERIVED. THE GIVEN ROWS OF THIS SEAT. 6 by the template 'for every input the law returns true; each argument reads behind the call as it read before'; 0 by the template 'total and deterministic' (their statements: YtofjdbmcloemnaaGreatDoorTotals.lean).
  GIVEN WITH THE SEED: the statements are not yours to turn. If you find one false, say at which input.
  Laid BY PROGRAM, IN A SANDBOX (cutbox-rows.mjs): the forced cells as the released guide's own fill.sh prints them over the translation d175cbf8701522e7… (all of the seat's roots in one cut). By AI agents, Wed Nov 11 2026. No macro, syntax, notation, axiom, sorry.
-/
import Derived.Test.YtofjdbmcloemnaaGreatDoorChecked
import GoSem.Claim
import GoSem.ClaimJoined
import GoSem.ClaimMapViews
import Derived.JoinedTies
import Derived.KernelRfl
namespace Go.Proofs.YtofjdbmcloemnaaGreatDoor
/- THE CELL 'sum', in the pinned program and in every row, IS THE sha256 OF THE DUMP (.gsa) THAT YtofjdbmcloemnaaGreatDoorProg.lean LOADS. Nothing in Lean hashes anything: it is a label: what it is worth is what the hold of that sum in a sandbox is worth. -/
noncomputable def Tryz.pinned : Pinned := { name := "ytofjdbmcloemnaagreatdoor", sum := "d175cbf8701522e763285efc296c8dba71a16ec8aa264ac62fedfd7fe95e7d86", checked := Tryz.checked }
namespace Rows
def none {H : Type} : Left H := { results := [], args := [] }

/- WHAT THE LISTED PACKAGE-LEVEL VARIABLES READ AS WHEN THE CALL BEGINS. Each datum BY PROGRAM (the guide's laid-datum.mjs) off the statement by which the dump's own 'gosem.cut.vars' lays the variable. In a bare row this is a premise. The card (YtofjdbmcloemnaaGreatDoorCards.lean) ties it to the program's text. -/
def laid_math_bits_deBruijn64tab {H : Type} : DataW H := .agg [.lit (.int .u8 0), .lit (.int .u8 1), .lit (.int .u8 56), .lit (.int .u8 2), .lit (.int .u8 57), .lit (.int .u8 49), .lit (.int .u8 28), .lit (.int .u8 3), .lit (.int .u8 61), .lit (.int .u8 58), .lit (.int .u8 42), .lit (.int .u8 50), .lit (.int .u8 38), .lit (.int .u8 29), .lit (.int .u8 17), .lit (.int .u8 4), .lit (.int .u8 62), .lit (.int .u8 47), .lit (.int .u8 59), .lit (.int .u8 36), .lit (.int .u8 45), .lit (.int .u8 43), .lit (.int .u8 51), .lit (.int .u8 22), .lit (.int .u8 53), .lit (.int .u8 39), .lit (.int .u8 33), .lit (.int .u8 30), .lit (.int .u8 24), .lit (.int .u8 18), .lit (.int .u8 12), .lit (.int .u8 5), .lit (.int .u8 63), .lit (.int .u8 55), .lit (.int .u8 48), .lit (.int .u8 27), .lit (.int .u8 60), .lit (.int .u8 41), .lit (.int .u8 37), .lit (.int .u8 16), .lit (.int .u8 46), .lit (.int .u8 35), .lit (.int .u8 44), .lit (.int .u8 21), .lit (.int .u8 52), .lit (.int .u8 32), .lit (.int .u8 23), .lit (.int .u8 11), .lit (.int .u8 54), .lit (.int .u8 26), .lit (.int .u8 40), .lit (.int .u8 15), .lit (.int .u8 34), .lit (.int .u8 20), .lit (.int .u8 31), .lit (.int .u8 10), .lit (.int .u8 25), .lit (.int .u8 14), .lit (.int .u8 19), .lit (.int .u8 9), .lit (.int .u8 13), .lit (.int .u8 8), .lit (.int .u8 7), .lit (.int .u8 6)]

/-- 'backflushlaw11.NamesResolveSpec': WHATEVER THE INPUT: true; the input reads as it did. -/
def namesResolveSpecSpec : ChangeSpec := { name := "namesResolveSpec", fn := fun _ => fun
  | [d] => { results := [.lit (.bool true)], args := [d] }
  | _ => none }
def namesResolveSpecRow : OpenClaim := { program := "ytofjdbmcloemnaagreatdoor", sum := "d175cbf8701522e763285efc296c8dba71a16ec8aa264ac62fedfd7fe95e7d86", func := "backflush/backflushlaw11.NamesResolveSpec", spec := "namesResolveSpec", inPlace := ["math/bits.Add64", "math/bits.Sub64"], unfollowed := true, recurses := true, named := ["math/bits.deBruijn64tab", "math/bits.divideError", "math/bits.overflowError"], apart := false, laid := [("math/bits.deBruijn64tab", laid_math_bits_deBruijn64tab)] }
def NamesResolveSpecSaid : Prop := namesResolveSpecRow.holds Tryz.pinned (OpenSpec.ofChange namesResolveSpecSpec)

/-- ITS FALSE NEIGHBOUR: 'it returns false'. Refute it at one input. -/
def namesResolveSpecWrong : ChangeSpec := { name := "namesResolveSpec", fn := fun _ => fun
  | [d] => { results := [.lit (.bool false)], args := [d] }
  | _ => none }
def NamesResolveSpecWrongFalsely : Prop := namesResolveSpecRow.holds Tryz.pinned (OpenSpec.ofChange namesResolveSpecWrong)

/-- 'backflushlaw11.NamesMeans': WHATEVER THE INPUT: true; the input reads as it did. -/
def namesMeansSpec : ChangeSpec := { name := "namesMeans", fn := fun _ => fun
  | [d] => { results := [.lit (.bool true)], args := [d] }
  | _ => none }
def namesMeansRow : OpenClaim := { program := "ytofjdbmcloemnaagreatdoor", sum := "d175cbf8701522e763285efc296c8dba71a16ec8aa264ac62fedfd7fe95e7d86", func := "backflush/backflushlaw11.NamesMeans", spec := "namesMeans", inPlace := ["math/bits.Add64", "math/bits.Sub64"], unfollowed := true, recurses := true, named := ["math/bits.deBruijn64tab", "math/bits.divideError", "math/bits.overflowError"], apart := false, laid := [("math/bits.deBruijn64tab", laid_math_bits_deBruijn64tab)] }
def NamesMeansSaid : Prop := namesMeansRow.holds Tryz.pinned (OpenSpec.ofChange namesMeansSpec)

/-- ITS FALSE NEIGHBOUR: 'it returns false'. Refute it at one input. -/
def namesMeansWrong : ChangeSpec := { name := "namesMeans", fn := fun _ => fun
  | [d] => { results := [.lit (.bool false)], args := [d] }
  | _ => none }
def NamesMeansWrongFalsely : Prop := namesMeansRow.holds Tryz.pinned (OpenSpec.ofChange namesMeansWrong)

/-- 'backflushlaw11.NamesAgain': WHATEVER THE INPUT: true; the input reads as it did. -/
def namesAgainSpec : ChangeSpec := { name := "namesAgain", fn := fun _ => fun
  | [d] => { results := [.lit (.bool true)], args := [d] }
  | _ => none }
def namesAgainRow : OpenClaim := { program := "ytofjdbmcloemnaagreatdoor", sum := "d175cbf8701522e763285efc296c8dba71a16ec8aa264ac62fedfd7fe95e7d86", func := "backflush/backflushlaw11.NamesAgain", spec := "namesAgain", inPlace := ["math/bits.Add64", "math/bits.Sub64"], unfollowed := true, recurses := true, named := ["math/bits.deBruijn64tab", "math/bits.divideError", "math/bits.overflowError"], apart := false, laid := [("math/bits.deBruijn64tab", laid_math_bits_deBruijn64tab)] }
def NamesAgainSaid : Prop := namesAgainRow.holds Tryz.pinned (OpenSpec.ofChange namesAgainSpec)

/-- ITS FALSE NEIGHBOUR: 'it returns false'. Refute it at one input. -/
def namesAgainWrong : ChangeSpec := { name := "namesAgain", fn := fun _ => fun
  | [d] => { results := [.lit (.bool false)], args := [d] }
  | _ => none }
def NamesAgainWrongFalsely : Prop := namesAgainRow.holds Tryz.pinned (OpenSpec.ofChange namesAgainWrong)

/-- 'backflushlaw11.NamesTwice': WHATEVER THE INPUT: true; the input reads as it did. -/
def namesTwiceSpec : ChangeSpec := { name := "namesTwice", fn := fun _ => fun
  | [d1, d2] => { results := [.lit (.bool true)], args := [d1, d2] }
  | _ => none }
def namesTwiceRow : OpenClaim := { program := "ytofjdbmcloemnaagreatdoor", sum := "d175cbf8701522e763285efc296c8dba71a16ec8aa264ac62fedfd7fe95e7d86", func := "backflush/backflushlaw11.NamesTwice", spec := "namesTwice", inPlace := ["math/bits.Add64", "math/bits.Sub64"], unfollowed := true, recurses := true, named := ["math/bits.deBruijn64tab", "math/bits.divideError", "math/bits.overflowError"], apart := false, laid := [("math/bits.deBruijn64tab", laid_math_bits_deBruijn64tab)] }
def NamesTwiceSaid : Prop := namesTwiceRow.holds Tryz.pinned (OpenSpec.ofChange namesTwiceSpec)

/-- ITS FALSE NEIGHBOUR: 'it returns false'. Refute it at one input. -/
def namesTwiceWrong : ChangeSpec := { name := "namesTwice", fn := fun _ => fun
  | [d1, d2] => { results := [.lit (.bool false)], args := [d1, d2] }
  | _ => none }
def NamesTwiceWrongFalsely : Prop := namesTwiceRow.holds Tryz.pinned (OpenSpec.ofChange namesTwiceWrong)

/-- 'backflushlaw11.NamesMissing': WHATEVER THE INPUT: true; the input reads as it did. -/
def namesMissingSpec : ChangeSpec := { name := "namesMissing", fn := fun _ => fun
  | [d1, d2] => { results := [.lit (.bool true)], args := [d1, d2] }
  | _ => none }
def namesMissingRow : OpenClaim := { program := "ytofjdbmcloemnaagreatdoor", sum := "d175cbf8701522e763285efc296c8dba71a16ec8aa264ac62fedfd7fe95e7d86", func := "backflush/backflushlaw11.NamesMissing", spec := "namesMissing", inPlace := ["math/bits.Add64", "math/bits.Sub64"], unfollowed := true, recurses := true, named := ["math/bits.deBruijn64tab", "math/bits.divideError", "math/bits.overflowError"], apart := false, laid := [("math/bits.deBruijn64tab", laid_math_bits_deBruijn64tab)] }
def NamesMissingSaid : Prop := namesMissingRow.holds Tryz.pinned (OpenSpec.ofChange namesMissingSpec)

/-- ITS FALSE NEIGHBOUR: 'it returns false'. Refute it at one input. -/
def namesMissingWrong : ChangeSpec := { name := "namesMissing", fn := fun _ => fun
  | [d1, d2] => { results := [.lit (.bool false)], args := [d1, d2] }
  | _ => none }
def NamesMissingWrongFalsely : Prop := namesMissingRow.holds Tryz.pinned (OpenSpec.ofChange namesMissingWrong)

/-- 'backflushlaw11.NamesFindSpec': WHATEVER THE INPUT: true; the input reads as it did. -/
def namesFindSpecSpec : ChangeSpec := { name := "namesFindSpec", fn := fun _ => fun
  | [d1, d2, d3] => { results := [.lit (.bool true)], args := [d1, d2, d3] }
  | _ => none }
def namesFindSpecRow : OpenClaim := { program := "ytofjdbmcloemnaagreatdoor", sum := "d175cbf8701522e763285efc296c8dba71a16ec8aa264ac62fedfd7fe95e7d86", func := "backflush/backflushlaw11.NamesFindSpec", spec := "namesFindSpec", inPlace := ["math/bits.Add64", "math/bits.Sub64"], unfollowed := true, recurses := true, named := ["math/bits.deBruijn64tab", "math/bits.divideError", "math/bits.overflowError"], apart := false, laid := [("math/bits.deBruijn64tab", laid_math_bits_deBruijn64tab)] }
def NamesFindSpecSaid : Prop := namesFindSpecRow.holds Tryz.pinned (OpenSpec.ofChange namesFindSpecSpec)

/-- ITS FALSE NEIGHBOUR: 'it returns false'. Refute it at one input. -/
def namesFindSpecWrong : ChangeSpec := { name := "namesFindSpec", fn := fun _ => fun
  | [d1, d2, d3] => { results := [.lit (.bool false)], args := [d1, d2, d3] }
  | _ => none }
def NamesFindSpecWrongFalsely : Prop := namesFindSpecRow.holds Tryz.pinned (OpenSpec.ofChange namesFindSpecWrong)

/- THE SECOND FORM. 'bulk': how many values and letters a reading holds, each counted each time it is reached (what is shared counts as often as it is met; a slice's spare places count too). A statement '..UptoSaid' is the law's where the arguments, and the package variables that the reading takes, are together of bulk at most 1048576: NARROWER than '..Said'. Prove '..Said' where nothing that the law and all that it calls make is longer than what came in: it says more and counts as full. Else prove '..UptoSaid'. A law counts once. -/
mutual
def uptoBulk {H : Type} : DataW H → Nat
  | .lit (.string bytes) => bytes.length + 1
  | .lit _ => 1
  | .nil => 1
  | .ptr d => uptoBulk d + 1
  | .slice elems spare => uptoBulkAll elems + uptoBulkAll spare + 1
  | .agg parts => uptoBulkAll parts + 1
  | .iface _ d => uptoBulk d + 1
  | .map entries => uptoBulkEntries entries + 1
  | .held _ => 1
def uptoBulkAll {H : Type} : List (DataW H) → Nat
  | [] => 0
  | d :: r => uptoBulk d + uptoBulkAll r
def uptoBulkEntries {H : Type} : List (Lit × DataW H) → Nat
  | [] => 0
  | x :: r => uptoBulkEntry x + uptoBulkEntries r
def uptoBulkEntry {H : Type} : Lit × DataW H → Nat
  | (.string bytes, d) => bytes.length + uptoBulk d + 1
  | (_, d) => uptoBulk d + 1
 end
def uptoSmall : (H : Type) → List (DataW H) → Bool := fun _ ds => decide (uptoBulkAll ds ≤ 1048576)
def OpenSpec.upto (s : _root_.Go.ChangeSpec) : _root_.Go.OpenSpec := { _root_.Go.OpenSpec.ofChange s with cond := some uptoSmall }

/-- 'backflushlaw11.NamesResolveSpec', WHERE WHAT IT READS IS OF BULK AT MOST 1048576: true; the input reads as it did. -/
def namesResolveSpecUptoRow : OpenClaim := { program := "ytofjdbmcloemnaagreatdoor", sum := "d175cbf8701522e763285efc296c8dba71a16ec8aa264ac62fedfd7fe95e7d86", func := "backflush/backflushlaw11.NamesResolveSpec", spec := "namesResolveSpec", inPlace := ["math/bits.Add64", "math/bits.Sub64"], unfollowed := true, recurses := true, named := ["math/bits.deBruijn64tab", "math/bits.divideError", "math/bits.overflowError"], apart := false, laid := [("math/bits.deBruijn64tab", laid_math_bits_deBruijn64tab)], narrowed := true }
def NamesResolveSpecUptoSaid : Prop := namesResolveSpecUptoRow.holds Tryz.pinned (OpenSpec.upto namesResolveSpecSpec)

/-- 'backflushlaw11.NamesMeans', WHERE WHAT IT READS IS OF BULK AT MOST 1048576: true; the input reads as it did. -/
def namesMeansUptoRow : OpenClaim := { program := "ytofjdbmcloemnaagreatdoor", sum := "d175cbf8701522e763285efc296c8dba71a16ec8aa264ac62fedfd7fe95e7d86", func := "backflush/backflushlaw11.NamesMeans", spec := "namesMeans", inPlace := ["math/bits.Add64", "math/bits.Sub64"], unfollowed := true, recurses := true, named := ["math/bits.deBruijn64tab", "math/bits.divideError", "math/bits.overflowError"], apart := false, laid := [("math/bits.deBruijn64tab", laid_math_bits_deBruijn64tab)], narrowed := true }
def NamesMeansUptoSaid : Prop := namesMeansUptoRow.holds Tryz.pinned (OpenSpec.upto namesMeansSpec)

/-- 'backflushlaw11.NamesAgain', WHERE WHAT IT READS IS OF BULK AT MOST 1048576: true; the input reads as it did. -/
def namesAgainUptoRow : OpenClaim := { program := "ytofjdbmcloemnaagreatdoor", sum := "d175cbf8701522e763285efc296c8dba71a16ec8aa264ac62fedfd7fe95e7d86", func := "backflush/backflushlaw11.NamesAgain", spec := "namesAgain", inPlace := ["math/bits.Add64", "math/bits.Sub64"], unfollowed := true, recurses := true, named := ["math/bits.deBruijn64tab", "math/bits.divideError", "math/bits.overflowError"], apart := false, laid := [("math/bits.deBruijn64tab", laid_math_bits_deBruijn64tab)], narrowed := true }
def NamesAgainUptoSaid : Prop := namesAgainUptoRow.holds Tryz.pinned (OpenSpec.upto namesAgainSpec)

/-- 'backflushlaw11.NamesTwice', WHERE WHAT IT READS IS OF BULK AT MOST 1048576: true; the input reads as it did. -/
def namesTwiceUptoRow : OpenClaim := { program := "ytofjdbmcloemnaagreatdoor", sum := "d175cbf8701522e763285efc296c8dba71a16ec8aa264ac62fedfd7fe95e7d86", func := "backflush/backflushlaw11.NamesTwice", spec := "namesTwice", inPlace := ["math/bits.Add64", "math/bits.Sub64"], unfollowed := true, recurses := true, named := ["math/bits.deBruijn64tab", "math/bits.divideError", "math/bits.overflowError"], apart := false, laid := [("math/bits.deBruijn64tab", laid_math_bits_deBruijn64tab)], narrowed := true }
def NamesTwiceUptoSaid : Prop := namesTwiceUptoRow.holds Tryz.pinned (OpenSpec.upto namesTwiceSpec)

/-- 'backflushlaw11.NamesMissing', WHERE WHAT IT READS IS OF BULK AT MOST 1048576: true; the input reads as it did. -/
def namesMissingUptoRow : OpenClaim := { program := "ytofjdbmcloemnaagreatdoor", sum := "d175cbf8701522e763285efc296c8dba71a16ec8aa264ac62fedfd7fe95e7d86", func := "backflush/backflushlaw11.NamesMissing", spec := "namesMissing", inPlace := ["math/bits.Add64", "math/bits.Sub64"], unfollowed := true, recurses := true, named := ["math/bits.deBruijn64tab", "math/bits.divideError", "math/bits.overflowError"], apart := false, laid := [("math/bits.deBruijn64tab", laid_math_bits_deBruijn64tab)], narrowed := true }
def NamesMissingUptoSaid : Prop := namesMissingUptoRow.holds Tryz.pinned (OpenSpec.upto namesMissingSpec)

/-- 'backflushlaw11.NamesFindSpec', WHERE WHAT IT READS IS OF BULK AT MOST 1048576: true; the input reads as it did. -/
def namesFindSpecUptoRow : OpenClaim := { program := "ytofjdbmcloemnaagreatdoor", sum := "d175cbf8701522e763285efc296c8dba71a16ec8aa264ac62fedfd7fe95e7d86", func := "backflush/backflushlaw11.NamesFindSpec", spec := "namesFindSpec", inPlace := ["math/bits.Add64", "math/bits.Sub64"], unfollowed := true, recurses := true, named := ["math/bits.deBruijn64tab", "math/bits.divideError", "math/bits.overflowError"], apart := false, laid := [("math/bits.deBruijn64tab", laid_math_bits_deBruijn64tab)], narrowed := true }
def NamesFindSpecUptoSaid : Prop := namesFindSpecUptoRow.holds Tryz.pinned (OpenSpec.upto namesFindSpecSpec)

end Rows
end Go.Proofs.YtofjdbmcloemnaaGreatDoor
