/- Texts of this seat, joined: Rows whose arguments are flat structs, or slices of such. Rows whose arguments are structs of single cells, with structs i -/
import Derived.Test.YtgbeechjghajcaaGreatDoorJoinF
import Derived.Test.YtgbeechjghajcaaGreatDoorCards
import Derived.Test.YtgbeechjghajcaaGreatDoorTie
import Derived.WalkKit
import Derived.ProofKit
import Derived.OpenShut
import Derived.Deep.DeepHandedRow
import Derived.Lib.LaidTab
import Derived.Stop.LaidErr
set_option linter.unusedVariables false
set_option linter.unusedSimpArgs false
namespace Go.Fw
open Go Go.RowKit Go.WideShapes Go.ChangeShapes
section
variable {H:Type} {enc:TypeId×Value→H} {P:Program} {w:World} {base:Nat} {sp:Nat→Bool} {held:Bool}
inductive Sc where
 |b
 |s
 |i (k:IntKind)
def Sc.ok:Sc→Value→Prop
 | .b,v=>∃x,v=.bool x
 | .s,v=>∃x:ByteArray,v=.string x∧x.size≤maxLen
 | .i k,v=>∃n,v=.int k n∧(Lit.int k n).wf=true
end
end Go.Fw

namespace Go.Fw
open Go Go.RowKit Go.WideShapes Go.ChangeShapes
end Go.Fw

namespace Go.Proofs.YtgbeechjghajcaaGreatDoor
open Go Go.Fw Go.ChangeShapes Go.WideShapes Go.ChangeAt Go.RowKit
set_option maxRecDepth 100000
theorem own:ownKnob Tryz.prog.godebug=none:=by kernel_rfl
theorem gPowType:(Tryz.prog.globals[(1:Nat)]?).map (·.type)=some 258:=by kernel_rfl
theorem cellsPow:Tryz.prog.cellsOf 258=20:=by kernel_rfl
theorem cellsU64:Tryz.prog.cellsOf 244=1:=by kernel_rfl
theorem powData:(Rows.laid_internal_strconv_uint64pow10:DataW Unit)=Lib.tabData .u64 Lib.pow10Tab:=by kernel_rfl
theorem table {W:World} (h:laidMetH Tryz.prog [("math/bits.deBruijn32tab",Rows.laid_math_bits_deBruijn32tab),("math/bits.deBruijn64tab",Rows.laid_math_bits_deBruijn64tab),("internal/strconv.uint64pow10",Rows.laid_internal_strconv_uint64pow10)] W):PowH W.heap:=by
 have h0:laidMet Tryz.prog [("math/bits.deBruijn32tab",Rows.laid_math_bits_deBruijn32tab),("math/bits.deBruijn64tab",Rows.laid_math_bits_deBruijn64tab),("internal/strconv.uint64pow10",Rows.laid_internal_strconv_uint64pow10)] W:=h
 rw [powData] at h0
 have h1:Lib.TabIs Tryz.prog W "internal/strconv.uint64pow10" .u64 Lib.pow10Tab:=
  Lib.tabIs_of_head (rest:=[]) gPow gPowType Tryz.underlying258 Tryz.underlying244 cellsU64 cellsPow (laidMet.tail (laidMet.tail h0))
 unfold Lib.TabIs World.var? at h1
 rw [gPow] at h1
 exact h1
noncomputable def laidWorld (os:Os):World:=
 let lay (zs:List Value):Obj→Obj:=fun
   | .cells _ t frozen=>.cells zs.toArray t frozen
   |o=>o
 {World.holding Tryz.prog os ⟨#[],#[],[]⟩ with heap:=(((World.holding Tryz.prog os ⟨#[],#[],[]⟩).heap.modify 3 (lay tab64)).modify 2 (lay tab32)).modify 1 (lay (Lib.pow10Tab.map fun z=>Value.int .u64 z))}
where
 tab32:List Value:=([0,1,28,2,29,14,24,3,30,22,20,15,25,17,4,8,31,27,13,23,21,19,16,7,26,12,18,6,11,5,10,9]:List Int).map fun z=>Value.int .u8 z
 tab64:List Value:=([0,1,56,2,57,49,28,3,61,58,42,50,38,29,17,4,62,47,59,36,45,43,51,22,53,39,33,30,24,18,12,5,63,55,48,27,60,41,37,16,46,35,44,21,52,32,23,11,54,26,40,15,34,20,31,10,25,14,19,9,13,8,7,6]:List Int).map fun z=>Value.int .u8 z
theorem laidOut:laidOutB Tryz.prog=true:=by kernel_rfl
end Go.Proofs.YtgbeechjghajcaaGreatDoor
