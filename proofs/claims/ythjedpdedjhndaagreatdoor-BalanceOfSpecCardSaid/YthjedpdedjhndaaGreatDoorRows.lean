/-
  NARROWER THAN 'FOR EVERY INPUT', by the rows' own cells (each row's printed sentence says how): BalanceOfSpec: laid · BalanceSpec: laid · BalanceHolds: laid · BalanceMasses: laid · BalanceMore: laid · BalanceTwice: laid.
  DERIVED. THE GIVEN ROWS OF THIS SEAT. 6 by the template 'for every input the law returns true; each argument reads behind the call as it read before'; 0 by the template 'total and deterministic' (their statements: YthjedpdedjhndaaGreatDoorTotals.lean).
  GIVEN WITH THE SEED: the statements are not yours to turn. If you find one false, say at which input.
  Laid BY PROGRAM, IN A SANDBOX (cutbox-rows.mjs): the forced cells as the released guide's own fill.sh prints them over the translation 188b4fbb50449c2e… (all of the seat's roots in one cut). By AI agents, Wed Nov 11 2026. No macro, syntax, notation, axiom, sorry.
-/
import Derived.Test.YthjedpdedjhndaaGreatDoorChecked
import GoSem.Claim
import GoSem.ClaimJoined
import GoSem.ClaimMapViews
import Derived.JoinedTies
import Derived.KernelRfl
namespace Go.Proofs.YthjedpdedjhndaaGreatDoor
/- THE CELL 'sum', in the pinned program and in every row, IS THE sha256 OF THE DUMP (.gsa) THAT YthjedpdedjhndaaGreatDoorProg.lean LOADS. Nothing in Lean hashes anything: it is a label: what it is worth is what the hold of that sum in a sandbox is worth. -/
noncomputable def Tryz.pinned : Pinned := { name := "ythjedpdedjhndaagreatdoor", sum := "188b4fbb50449c2e6bbc33675e78a7d858e9c0aa9c4b54705e12e0f06d3fb9f7", checked := Tryz.checked }
namespace Rows
def none {H : Type} : Left H := { results := [], args := [] }

/- WHAT THE LISTED PACKAGE-LEVEL VARIABLES READ AS WHEN THE CALL BEGINS. Each datum BY PROGRAM (the guide's laid-datum.mjs) off the statement by which the dump's own 'gosem.cut.vars' lays the variable. In a bare row this is a premise. The card (YthjedpdedjhndaaGreatDoorCards.lean) ties it to the program's text. -/
def laid_math_bits_deBruijn64tab {H : Type} : DataW H := .agg [.lit (.int .u8 0), .lit (.int .u8 1), .lit (.int .u8 56), .lit (.int .u8 2), .lit (.int .u8 57), .lit (.int .u8 49), .lit (.int .u8 28), .lit (.int .u8 3), .lit (.int .u8 61), .lit (.int .u8 58), .lit (.int .u8 42), .lit (.int .u8 50), .lit (.int .u8 38), .lit (.int .u8 29), .lit (.int .u8 17), .lit (.int .u8 4), .lit (.int .u8 62), .lit (.int .u8 47), .lit (.int .u8 59), .lit (.int .u8 36), .lit (.int .u8 45), .lit (.int .u8 43), .lit (.int .u8 51), .lit (.int .u8 22), .lit (.int .u8 53), .lit (.int .u8 39), .lit (.int .u8 33), .lit (.int .u8 30), .lit (.int .u8 24), .lit (.int .u8 18), .lit (.int .u8 12), .lit (.int .u8 5), .lit (.int .u8 63), .lit (.int .u8 55), .lit (.int .u8 48), .lit (.int .u8 27), .lit (.int .u8 60), .lit (.int .u8 41), .lit (.int .u8 37), .lit (.int .u8 16), .lit (.int .u8 46), .lit (.int .u8 35), .lit (.int .u8 44), .lit (.int .u8 21), .lit (.int .u8 52), .lit (.int .u8 32), .lit (.int .u8 23), .lit (.int .u8 11), .lit (.int .u8 54), .lit (.int .u8 26), .lit (.int .u8 40), .lit (.int .u8 15), .lit (.int .u8 34), .lit (.int .u8 20), .lit (.int .u8 31), .lit (.int .u8 10), .lit (.int .u8 25), .lit (.int .u8 14), .lit (.int .u8 19), .lit (.int .u8 9), .lit (.int .u8 13), .lit (.int .u8 8), .lit (.int .u8 7), .lit (.int .u8 6)]

/-- 'backflushlaw14.BalanceOfSpec': WHATEVER THE INPUT: true; the input reads as it did. -/
def balanceOfSpecSpec : ChangeSpec := { name := "balanceOfSpec", fn := fun _ => fun
  | [d1, d2] => { results := [.lit (.bool true)], args := [d1, d2] }
  | _ => none }
def balanceOfSpecRow : OpenClaim := { program := "ythjedpdedjhndaagreatdoor", sum := "188b4fbb50449c2e6bbc33675e78a7d858e9c0aa9c4b54705e12e0f06d3fb9f7", func := "backflush/backflushlaw14.BalanceOfSpec", spec := "balanceOfSpec", inPlace := ["math/bits.Add64", "math/bits.Sub64"], unfollowed := true, recurses := true, named := ["math/bits.deBruijn64tab", "math/bits.divideError", "math/bits.overflowError"], apart := false, laid := [("math/bits.deBruijn64tab", laid_math_bits_deBruijn64tab)] }
def BalanceOfSpecSaid : Prop := balanceOfSpecRow.holds Tryz.pinned (OpenSpec.ofChange balanceOfSpecSpec)

/-- ITS FALSE NEIGHBOUR: 'it returns false'. Refute it at one input. -/
def balanceOfSpecWrong : ChangeSpec := { name := "balanceOfSpec", fn := fun _ => fun
  | [d1, d2] => { results := [.lit (.bool false)], args := [d1, d2] }
  | _ => none }
def BalanceOfSpecWrongFalsely : Prop := balanceOfSpecRow.holds Tryz.pinned (OpenSpec.ofChange balanceOfSpecWrong)

/-- 'backflushlaw14.BalanceSpec': WHATEVER THE INPUT: true; the input reads as it did. -/
def balanceSpecSpec : ChangeSpec := { name := "balanceSpec", fn := fun _ => fun
  | [d] => { results := [.lit (.bool true)], args := [d] }
  | _ => none }
def balanceSpecRow : OpenClaim := { program := "ythjedpdedjhndaagreatdoor", sum := "188b4fbb50449c2e6bbc33675e78a7d858e9c0aa9c4b54705e12e0f06d3fb9f7", func := "backflush/backflushlaw14.BalanceSpec", spec := "balanceSpec", inPlace := ["math/bits.Add64", "math/bits.Sub64"], unfollowed := true, recurses := true, named := ["math/bits.deBruijn64tab", "math/bits.divideError", "math/bits.overflowError"], apart := false, laid := [("math/bits.deBruijn64tab", laid_math_bits_deBruijn64tab)] }
def BalanceSpecSaid : Prop := balanceSpecRow.holds Tryz.pinned (OpenSpec.ofChange balanceSpecSpec)

/-- ITS FALSE NEIGHBOUR: 'it returns false'. Refute it at one input. -/
def balanceSpecWrong : ChangeSpec := { name := "balanceSpec", fn := fun _ => fun
  | [d] => { results := [.lit (.bool false)], args := [d] }
  | _ => none }
def BalanceSpecWrongFalsely : Prop := balanceSpecRow.holds Tryz.pinned (OpenSpec.ofChange balanceSpecWrong)

/-- 'backflushlaw14.BalanceHolds': WHATEVER THE INPUT: true; the input reads as it did. -/
def balanceHoldsSpec : ChangeSpec := { name := "balanceHolds", fn := fun _ => fun
  | [d] => { results := [.lit (.bool true)], args := [d] }
  | _ => none }
def balanceHoldsRow : OpenClaim := { program := "ythjedpdedjhndaagreatdoor", sum := "188b4fbb50449c2e6bbc33675e78a7d858e9c0aa9c4b54705e12e0f06d3fb9f7", func := "backflush/backflushlaw14.BalanceHolds", spec := "balanceHolds", inPlace := ["math/bits.Add64", "math/bits.Sub64"], unfollowed := true, recurses := true, named := ["math/bits.deBruijn64tab", "math/bits.divideError", "math/bits.overflowError"], apart := false, laid := [("math/bits.deBruijn64tab", laid_math_bits_deBruijn64tab)] }
def BalanceHoldsSaid : Prop := balanceHoldsRow.holds Tryz.pinned (OpenSpec.ofChange balanceHoldsSpec)

/-- ITS FALSE NEIGHBOUR: 'it returns false'. Refute it at one input. -/
def balanceHoldsWrong : ChangeSpec := { name := "balanceHolds", fn := fun _ => fun
  | [d] => { results := [.lit (.bool false)], args := [d] }
  | _ => none }
def BalanceHoldsWrongFalsely : Prop := balanceHoldsRow.holds Tryz.pinned (OpenSpec.ofChange balanceHoldsWrong)

/-- 'backflushlaw14.BalanceMasses': WHATEVER THE INPUT: true; the input reads as it did. -/
def balanceMassesSpec : ChangeSpec := { name := "balanceMasses", fn := fun _ => fun
  | [d1, d2] => { results := [.lit (.bool true)], args := [d1, d2] }
  | _ => none }
def balanceMassesRow : OpenClaim := { program := "ythjedpdedjhndaagreatdoor", sum := "188b4fbb50449c2e6bbc33675e78a7d858e9c0aa9c4b54705e12e0f06d3fb9f7", func := "backflush/backflushlaw14.BalanceMasses", spec := "balanceMasses", inPlace := ["math/bits.Add64", "math/bits.Sub64"], unfollowed := true, recurses := true, named := ["math/bits.deBruijn64tab", "math/bits.divideError", "math/bits.overflowError"], apart := false, laid := [("math/bits.deBruijn64tab", laid_math_bits_deBruijn64tab)] }
def BalanceMassesSaid : Prop := balanceMassesRow.holds Tryz.pinned (OpenSpec.ofChange balanceMassesSpec)

/-- ITS FALSE NEIGHBOUR: 'it returns false'. Refute it at one input. -/
def balanceMassesWrong : ChangeSpec := { name := "balanceMasses", fn := fun _ => fun
  | [d1, d2] => { results := [.lit (.bool false)], args := [d1, d2] }
  | _ => none }
def BalanceMassesWrongFalsely : Prop := balanceMassesRow.holds Tryz.pinned (OpenSpec.ofChange balanceMassesWrong)

/-- 'backflushlaw14.BalanceMore': WHATEVER THE INPUT: true; the input reads as it did. -/
def balanceMoreSpec : ChangeSpec := { name := "balanceMore", fn := fun _ => fun
  | [d1, d2, d3, d4] => { results := [.lit (.bool true)], args := [d1, d2, d3, d4] }
  | _ => none }
def balanceMoreRow : OpenClaim := { program := "ythjedpdedjhndaagreatdoor", sum := "188b4fbb50449c2e6bbc33675e78a7d858e9c0aa9c4b54705e12e0f06d3fb9f7", func := "backflush/backflushlaw14.BalanceMore", spec := "balanceMore", inPlace := ["math/bits.Add64", "math/bits.Sub64"], unfollowed := true, recurses := true, named := ["math/bits.deBruijn64tab", "math/bits.divideError", "math/bits.overflowError"], apart := false, laid := [("math/bits.deBruijn64tab", laid_math_bits_deBruijn64tab)] }
def BalanceMoreSaid : Prop := balanceMoreRow.holds Tryz.pinned (OpenSpec.ofChange balanceMoreSpec)

/-- ITS FALSE NEIGHBOUR: 'it returns false'. Refute it at one input. -/
def balanceMoreWrong : ChangeSpec := { name := "balanceMore", fn := fun _ => fun
  | [d1, d2, d3, d4] => { results := [.lit (.bool false)], args := [d1, d2, d3, d4] }
  | _ => none }
def BalanceMoreWrongFalsely : Prop := balanceMoreRow.holds Tryz.pinned (OpenSpec.ofChange balanceMoreWrong)

/-- 'backflushlaw14.BalanceTwice': WHATEVER THE INPUT: true; the input reads as it did. -/
def balanceTwiceSpec : ChangeSpec := { name := "balanceTwice", fn := fun _ => fun
  | [d1, d2] => { results := [.lit (.bool true)], args := [d1, d2] }
  | _ => none }
def balanceTwiceRow : OpenClaim := { program := "ythjedpdedjhndaagreatdoor", sum := "188b4fbb50449c2e6bbc33675e78a7d858e9c0aa9c4b54705e12e0f06d3fb9f7", func := "backflush/backflushlaw14.BalanceTwice", spec := "balanceTwice", inPlace := ["math/bits.Add64", "math/bits.Sub64"], unfollowed := true, recurses := true, named := ["math/bits.deBruijn64tab", "math/bits.divideError", "math/bits.overflowError"], apart := false, laid := [("math/bits.deBruijn64tab", laid_math_bits_deBruijn64tab)] }
def BalanceTwiceSaid : Prop := balanceTwiceRow.holds Tryz.pinned (OpenSpec.ofChange balanceTwiceSpec)

/-- ITS FALSE NEIGHBOUR: 'it returns false'. Refute it at one input. -/
def balanceTwiceWrong : ChangeSpec := { name := "balanceTwice", fn := fun _ => fun
  | [d1, d2] => { results := [.lit (.bool false)], args := [d1, d2] }
  | _ => none }
def BalanceTwiceWrongFalsely : Prop := balanceTwiceRow.holds Tryz.pinned (OpenSpec.ofChange balanceTwiceWrong)

/- THE SECOND FORM. 'bulk': how many values and letters a reading holds, each counted each time it is reached (what is shared counts as often as it is met; a slice's spare places count too). A statement '..UptoSaid' is the law's where the arguments, and the package variables that the reading takes, are together of bulk at most 1048576: NARROWER than '..Said'. Prove '..Said' where nothing that the law and all that it calls make is longer than what came in: it says more and counts as full. Else prove '..UptoSaid'. A law counts once. -/
mutual
def uptoBulk {H : Type} : DataW H → Nat
  | .lit (.string bytes) => bytes.length + 1
  | .lit _ => 1
  | .nil => 1
  | .ptr d => uptoBulk d + 1
  | .slice elems spare => uptoBulkAll elems + uptoBulkAll spare + 1
  | .agg parts => uptoBulkAll parts + 1
  | .iface _ d => uptoBulk d + 1
  | .map entries => uptoBulkEntries entries + 1
  | .held _ => 1
def uptoBulkAll {H : Type} : List (DataW H) → Nat
  | [] => 0
  | d :: r => uptoBulk d + uptoBulkAll r
def uptoBulkEntries {H : Type} : List (Lit × DataW H) → Nat
  | [] => 0
  | x :: r => uptoBulkEntry x + uptoBulkEntries r
def uptoBulkEntry {H : Type} : Lit × DataW H → Nat
  | (.string bytes, d) => bytes.length + uptoBulk d + 1
  | (_, d) => uptoBulk d + 1
 end
def uptoSmall : (H : Type) → List (DataW H) → Bool := fun _ ds => decide (uptoBulkAll ds ≤ 1048576)
def OpenSpec.upto (s : _root_.Go.ChangeSpec) : _root_.Go.OpenSpec := { _root_.Go.OpenSpec.ofChange s with cond := some uptoSmall }

/-- 'backflushlaw14.BalanceOfSpec', WHERE WHAT IT READS IS OF BULK AT MOST 1048576: true; the input reads as it did. -/
def balanceOfSpecUptoRow : OpenClaim := { program := "ythjedpdedjhndaagreatdoor", sum := "188b4fbb50449c2e6bbc33675e78a7d858e9c0aa9c4b54705e12e0f06d3fb9f7", func := "backflush/backflushlaw14.BalanceOfSpec", spec := "balanceOfSpec", inPlace := ["math/bits.Add64", "math/bits.Sub64"], unfollowed := true, recurses := true, named := ["math/bits.deBruijn64tab", "math/bits.divideError", "math/bits.overflowError"], apart := false, laid := [("math/bits.deBruijn64tab", laid_math_bits_deBruijn64tab)], narrowed := true }
def BalanceOfSpecUptoSaid : Prop := balanceOfSpecUptoRow.holds Tryz.pinned (OpenSpec.upto balanceOfSpecSpec)

/-- 'backflushlaw14.BalanceSpec', WHERE WHAT IT READS IS OF BULK AT MOST 1048576: true; the input reads as it did. -/
def balanceSpecUptoRow : OpenClaim := { program := "ythjedpdedjhndaagreatdoor", sum := "188b4fbb50449c2e6bbc33675e78a7d858e9c0aa9c4b54705e12e0f06d3fb9f7", func := "backflush/backflushlaw14.BalanceSpec", spec := "balanceSpec", inPlace := ["math/bits.Add64", "math/bits.Sub64"], unfollowed := true, recurses := true, named := ["math/bits.deBruijn64tab", "math/bits.divideError", "math/bits.overflowError"], apart := false, laid := [("math/bits.deBruijn64tab", laid_math_bits_deBruijn64tab)], narrowed := true }
def BalanceSpecUptoSaid : Prop := balanceSpecUptoRow.holds Tryz.pinned (OpenSpec.upto balanceSpecSpec)

/-- 'backflushlaw14.BalanceHolds', WHERE WHAT IT READS IS OF BULK AT MOST 1048576: true; the input reads as it did. -/
def balanceHoldsUptoRow : OpenClaim := { program := "ythjedpdedjhndaagreatdoor", sum := "188b4fbb50449c2e6bbc33675e78a7d858e9c0aa9c4b54705e12e0f06d3fb9f7", func := "backflush/backflushlaw14.BalanceHolds", spec := "balanceHolds", inPlace := ["math/bits.Add64", "math/bits.Sub64"], unfollowed := true, recurses := true, named := ["math/bits.deBruijn64tab", "math/bits.divideError", "math/bits.overflowError"], apart := false, laid := [("math/bits.deBruijn64tab", laid_math_bits_deBruijn64tab)], narrowed := true }
def BalanceHoldsUptoSaid : Prop := balanceHoldsUptoRow.holds Tryz.pinned (OpenSpec.upto balanceHoldsSpec)

/-- 'backflushlaw14.BalanceMasses', WHERE WHAT IT READS IS OF BULK AT MOST 1048576: true; the input reads as it did. -/
def balanceMassesUptoRow : OpenClaim := { program := "ythjedpdedjhndaagreatdoor", sum := "188b4fbb50449c2e6bbc33675e78a7d858e9c0aa9c4b54705e12e0f06d3fb9f7", func := "backflush/backflushlaw14.BalanceMasses", spec := "balanceMasses", inPlace := ["math/bits.Add64", "math/bits.Sub64"], unfollowed := true, recurses := true, named := ["math/bits.deBruijn64tab", "math/bits.divideError", "math/bits.overflowError"], apart := false, laid := [("math/bits.deBruijn64tab", laid_math_bits_deBruijn64tab)], narrowed := true }
def BalanceMassesUptoSaid : Prop := balanceMassesUptoRow.holds Tryz.pinned (OpenSpec.upto balanceMassesSpec)

/-- 'backflushlaw14.BalanceMore', WHERE WHAT IT READS IS OF BULK AT MOST 1048576: true; the input reads as it did. -/
def balanceMoreUptoRow : OpenClaim := { program := "ythjedpdedjhndaagreatdoor", sum := "188b4fbb50449c2e6bbc33675e78a7d858e9c0aa9c4b54705e12e0f06d3fb9f7", func := "backflush/backflushlaw14.BalanceMore", spec := "balanceMore", inPlace := ["math/bits.Add64", "math/bits.Sub64"], unfollowed := true, recurses := true, named := ["math/bits.deBruijn64tab", "math/bits.divideError", "math/bits.overflowError"], apart := false, laid := [("math/bits.deBruijn64tab", laid_math_bits_deBruijn64tab)], narrowed := true }
def BalanceMoreUptoSaid : Prop := balanceMoreUptoRow.holds Tryz.pinned (OpenSpec.upto balanceMoreSpec)

/-- 'backflushlaw14.BalanceTwice', WHERE WHAT IT READS IS OF BULK AT MOST 1048576: true; the input reads as it did. -/
def balanceTwiceUptoRow : OpenClaim := { program := "ythjedpdedjhndaagreatdoor", sum := "188b4fbb50449c2e6bbc33675e78a7d858e9c0aa9c4b54705e12e0f06d3fb9f7", func := "backflush/backflushlaw14.BalanceTwice", spec := "balanceTwice", inPlace := ["math/bits.Add64", "math/bits.Sub64"], unfollowed := true, recurses := true, named := ["math/bits.deBruijn64tab", "math/bits.divideError", "math/bits.overflowError"], apart := false, laid := [("math/bits.deBruijn64tab", laid_math_bits_deBruijn64tab)], narrowed := true }
def BalanceTwiceUptoSaid : Prop := balanceTwiceUptoRow.holds Tryz.pinned (OpenSpec.upto balanceTwiceSpec)

end Rows
end Go.Proofs.YthjedpdedjhndaaGreatDoor
