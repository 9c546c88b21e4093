/-
  No cell of these rows narrows 'for every input' (looked for: loops, veiled, ifaces, maps, wideKeys, modest, calm, conditions, laid).
  DERIVED. THE GIVEN ROWS OF THIS SEAT. 7 by the template 'for every input the law returns true; each argument reads behind the call as it read before'; 0 by the template 'total and deterministic' (their statements: YtnmnglcdoegbiaaGreatTotals.lean).
  GIVEN WITH THE SEED: the statements are not yours to turn. If you find one false, say at which input.
  Laid BY PROGRAM, IN A SANDBOX (cutbox-rows.mjs): the forced cells as the released guide's own fill.sh prints them over the translation 990b61f89673a2e4… (all of the seat's roots in one cut). By AI agents, Wed Nov 11 2026. No macro, syntax, notation, axiom, sorry.
-/
import Derived.Test.YtnmnglcdoegbiaaGreatChecked
import GoSem.Claim
import GoSem.ClaimJoined
import GoSem.ClaimMapViews
import Derived.JoinedTies
import Derived.KernelRfl
namespace Go.Proofs.YtnmnglcdoegbiaaGreat
/- THE CELL 'sum', in the pinned program and in every row, IS THE sha256 OF THE DUMP (.gsa) THAT YtnmnglcdoegbiaaGreatProg.lean LOADS. Nothing in Lean hashes anything: it is a label: what it is worth is what the hold of that sum in a sandbox is worth. -/
noncomputable def Tryz.pinned : Pinned := { name := "ytnmnglcdoegbiaagreat", sum := "990b61f89673a2e4ac080baf96eafbcc9ba3148ba67c18e221567924f774bfc2", checked := Tryz.checked }
namespace Rows
def none {H : Type} : Left H := { results := [], args := [] }

/-- 'narrowslaw04.RotationGroup': WHATEVER THE INPUT: true; the input reads as it did. -/
def rotationGroupSpec : ChangeSpec := { name := "rotationGroup", fn := fun _ => fun
  | [d1, d2, d3] => { results := [.lit (.bool true)], args := [d1, d2, d3] }
  | _ => none }
def rotationGroupRow : OpenClaim := { program := "ytnmnglcdoegbiaagreat", sum := "990b61f89673a2e4ac080baf96eafbcc9ba3148ba67c18e221567924f774bfc2", func := "narrows/narrowslaw04.RotationGroup", spec := "rotationGroup", unfollowed := true, recurses := true, named := ["math/bits.overflowError"], apart := false }
def RotationGroupSaid : Prop := rotationGroupRow.holds Tryz.pinned (OpenSpec.ofChange rotationGroupSpec)

/-- ITS FALSE NEIGHBOUR: 'it returns false'. Refute it at one input. -/
def rotationGroupWrong : ChangeSpec := { name := "rotationGroup", fn := fun _ => fun
  | [d1, d2, d3] => { results := [.lit (.bool false)], args := [d1, d2, d3] }
  | _ => none }
def RotationGroupWrongFalsely : Prop := rotationGroupRow.holds Tryz.pinned (OpenSpec.ofChange rotationGroupWrong)

/-- 'narrowslaw04.RotationImages': WHATEVER THE INPUT: true; the input reads as it did. -/
def rotationImagesSpec : ChangeSpec := { name := "rotationImages", fn := fun _ => fun
  | [d1, d2, d3, d4] => { results := [.lit (.bool true)], args := [d1, d2, d3, d4] }
  | _ => none }
def rotationImagesRow : OpenClaim := { program := "ytnmnglcdoegbiaagreat", sum := "990b61f89673a2e4ac080baf96eafbcc9ba3148ba67c18e221567924f774bfc2", func := "narrows/narrowslaw04.RotationImages", spec := "rotationImages", unfollowed := true, recurses := true, named := ["math/bits.overflowError"], apart := false }
def RotationImagesSaid : Prop := rotationImagesRow.holds Tryz.pinned (OpenSpec.ofChange rotationImagesSpec)

/-- ITS FALSE NEIGHBOUR: 'it returns false'. Refute it at one input. -/
def rotationImagesWrong : ChangeSpec := { name := "rotationImages", fn := fun _ => fun
  | [d1, d2, d3, d4] => { results := [.lit (.bool false)], args := [d1, d2, d3, d4] }
  | _ => none }
def RotationImagesWrongFalsely : Prop := rotationImagesRow.holds Tryz.pinned (OpenSpec.ofChange rotationImagesWrong)

/-- 'narrowslaw04.RotationProducts': WHATEVER THE INPUT: true; the input reads as it did. -/
def rotationProductsSpec : ChangeSpec := { name := "rotationProducts", fn := fun _ => fun
  | [d1, d2, d3, d4] => { results := [.lit (.bool true)], args := [d1, d2, d3, d4] }
  | _ => none }
def rotationProductsRow : OpenClaim := { program := "ytnmnglcdoegbiaagreat", sum := "990b61f89673a2e4ac080baf96eafbcc9ba3148ba67c18e221567924f774bfc2", func := "narrows/narrowslaw04.RotationProducts", spec := "rotationProducts", unfollowed := true, recurses := true, named := ["math/bits.overflowError"], apart := false }
def RotationProductsSaid : Prop := rotationProductsRow.holds Tryz.pinned (OpenSpec.ofChange rotationProductsSpec)

/-- ITS FALSE NEIGHBOUR: 'it returns false'. Refute it at one input. -/
def rotationProductsWrong : ChangeSpec := { name := "rotationProducts", fn := fun _ => fun
  | [d1, d2, d3, d4] => { results := [.lit (.bool false)], args := [d1, d2, d3, d4] }
  | _ => none }
def RotationProductsWrongFalsely : Prop := rotationProductsRow.holds Tryz.pinned (OpenSpec.ofChange rotationProductsWrong)

/-- 'narrowslaw04.RotationMiddle': WHATEVER THE INPUT: true; the input reads as it did. -/
def rotationMiddleSpec : ChangeSpec := { name := "rotationMiddle", fn := fun _ => fun
  | [d1, d2] => { results := [.lit (.bool true)], args := [d1, d2] }
  | _ => none }
def rotationMiddleRow : OpenClaim := { program := "ytnmnglcdoegbiaagreat", sum := "990b61f89673a2e4ac080baf96eafbcc9ba3148ba67c18e221567924f774bfc2", func := "narrows/narrowslaw04.RotationMiddle", spec := "rotationMiddle", unfollowed := true, recurses := true, named := ["math/bits.overflowError"], apart := false }
def RotationMiddleSaid : Prop := rotationMiddleRow.holds Tryz.pinned (OpenSpec.ofChange rotationMiddleSpec)

/-- ITS FALSE NEIGHBOUR: 'it returns false'. Refute it at one input. -/
def rotationMiddleWrong : ChangeSpec := { name := "rotationMiddle", fn := fun _ => fun
  | [d1, d2] => { results := [.lit (.bool false)], args := [d1, d2] }
  | _ => none }
def RotationMiddleWrongFalsely : Prop := rotationMiddleRow.holds Tryz.pinned (OpenSpec.ofChange rotationMiddleWrong)

/-- 'narrowslaw04.RotationOrders': WHATEVER THE INPUT: true; the input reads as it did. -/
def rotationOrdersSpec : ChangeSpec := { name := "rotationOrders", fn := fun _ => fun
  | [d1, d2, d3, d4] => { results := [.lit (.bool true)], args := [d1, d2, d3, d4] }
  | _ => none }
def rotationOrdersRow : OpenClaim := { program := "ytnmnglcdoegbiaagreat", sum := "990b61f89673a2e4ac080baf96eafbcc9ba3148ba67c18e221567924f774bfc2", func := "narrows/narrowslaw04.RotationOrders", spec := "rotationOrders", unfollowed := true, recurses := true, named := ["math/bits.overflowError"], apart := false }
def RotationOrdersSaid : Prop := rotationOrdersRow.holds Tryz.pinned (OpenSpec.ofChange rotationOrdersSpec)

/-- ITS FALSE NEIGHBOUR: 'it returns false'. Refute it at one input. -/
def rotationOrdersWrong : ChangeSpec := { name := "rotationOrders", fn := fun _ => fun
  | [d1, d2, d3, d4] => { results := [.lit (.bool false)], args := [d1, d2, d3, d4] }
  | _ => none }
def RotationOrdersWrongFalsely : Prop := rotationOrdersRow.holds Tryz.pinned (OpenSpec.ofChange rotationOrdersWrong)

/-- 'narrowslaw04.RotationCompares': WHATEVER THE INPUT: true; the input reads as it did. -/
def rotationComparesSpec : ChangeSpec := { name := "rotationCompares", fn := fun _ => fun
  | [d1, d2, d3] => { results := [.lit (.bool true)], args := [d1, d2, d3] }
  | _ => none }
def rotationComparesRow : OpenClaim := { program := "ytnmnglcdoegbiaagreat", sum := "990b61f89673a2e4ac080baf96eafbcc9ba3148ba67c18e221567924f774bfc2", func := "narrows/narrowslaw04.RotationCompares", spec := "rotationCompares", unfollowed := true, recurses := true, named := ["math/bits.overflowError"], apart := false }
def RotationComparesSaid : Prop := rotationComparesRow.holds Tryz.pinned (OpenSpec.ofChange rotationComparesSpec)

/-- ITS FALSE NEIGHBOUR: 'it returns false'. Refute it at one input. -/
def rotationComparesWrong : ChangeSpec := { name := "rotationCompares", fn := fun _ => fun
  | [d1, d2, d3] => { results := [.lit (.bool false)], args := [d1, d2, d3] }
  | _ => none }
def RotationComparesWrongFalsely : Prop := rotationComparesRow.holds Tryz.pinned (OpenSpec.ofChange rotationComparesWrong)

/-- 'narrowslaw04.RotationCorner': WHATEVER THE INPUT: true; the input reads as it did. -/
def rotationCornerSpec : ChangeSpec := { name := "rotationCorner", fn := fun _ => fun
  | [d1, d2, d3, d4] => { results := [.lit (.bool true)], args := [d1, d2, d3, d4] }
  | _ => none }
def rotationCornerRow : OpenClaim := { program := "ytnmnglcdoegbiaagreat", sum := "990b61f89673a2e4ac080baf96eafbcc9ba3148ba67c18e221567924f774bfc2", func := "narrows/narrowslaw04.RotationCorner", spec := "rotationCorner", unfollowed := true, recurses := true, named := ["math/bits.overflowError"], apart := false }
def RotationCornerSaid : Prop := rotationCornerRow.holds Tryz.pinned (OpenSpec.ofChange rotationCornerSpec)

/-- ITS FALSE NEIGHBOUR: 'it returns false'. Refute it at one input. -/
def rotationCornerWrong : ChangeSpec := { name := "rotationCorner", fn := fun _ => fun
  | [d1, d2, d3, d4] => { results := [.lit (.bool false)], args := [d1, d2, d3, d4] }
  | _ => none }
def RotationCornerWrongFalsely : Prop := rotationCornerRow.holds Tryz.pinned (OpenSpec.ofChange rotationCornerWrong)

/- THE SECOND FORM. 'bulk': how many values and letters a reading holds, each counted each time it is reached (what is shared counts as often as it is met; a slice's spare places count too). A statement '..UptoSaid' is the law's where the arguments, and the package variables that the reading takes, are together of bulk at most 1048576: NARROWER than '..Said'. Prove '..Said' where nothing that the law and all that it calls make is longer than what came in: it says more and counts as full. Else prove '..UptoSaid'. A law counts once. -/
mutual
def uptoBulk {H : Type} : DataW H → Nat
  | .lit (.string bytes) => bytes.length + 1
  | .lit _ => 1
  | .nil => 1
  | .ptr d => uptoBulk d + 1
  | .slice elems spare => uptoBulkAll elems + uptoBulkAll spare + 1
  | .agg parts => uptoBulkAll parts + 1
  | .iface _ d => uptoBulk d + 1
  | .map entries => uptoBulkEntries entries + 1
  | .held _ => 1
def uptoBulkAll {H : Type} : List (DataW H) → Nat
  | [] => 0
  | d :: r => uptoBulk d + uptoBulkAll r
def uptoBulkEntries {H : Type} : List (Lit × DataW H) → Nat
  | [] => 0
  | x :: r => uptoBulkEntry x + uptoBulkEntries r
def uptoBulkEntry {H : Type} : Lit × DataW H → Nat
  | (.string bytes, d) => bytes.length + uptoBulk d + 1
  | (_, d) => uptoBulk d + 1
 end
def uptoSmall : (H : Type) → List (DataW H) → Bool := fun _ ds => decide (uptoBulkAll ds ≤ 1048576)
def OpenSpec.upto (s : _root_.Go.ChangeSpec) : _root_.Go.OpenSpec := { _root_.Go.OpenSpec.ofChange s with cond := some uptoSmall }

/-- 'narrowslaw04.RotationGroup', WHERE WHAT IT READS IS OF BULK AT MOST 1048576: true; the input reads as it did. -/
def rotationGroupUptoRow : OpenClaim := { program := "ytnmnglcdoegbiaagreat", sum := "990b61f89673a2e4ac080baf96eafbcc9ba3148ba67c18e221567924f774bfc2", func := "narrows/narrowslaw04.RotationGroup", spec := "rotationGroup", unfollowed := true, recurses := true, named := ["math/bits.overflowError"], apart := false, narrowed := true }
def RotationGroupUptoSaid : Prop := rotationGroupUptoRow.holds Tryz.pinned (OpenSpec.upto rotationGroupSpec)

/-- 'narrowslaw04.RotationImages', WHERE WHAT IT READS IS OF BULK AT MOST 1048576: true; the input reads as it did. -/
def rotationImagesUptoRow : OpenClaim := { program := "ytnmnglcdoegbiaagreat", sum := "990b61f89673a2e4ac080baf96eafbcc9ba3148ba67c18e221567924f774bfc2", func := "narrows/narrowslaw04.RotationImages", spec := "rotationImages", unfollowed := true, recurses := true, named := ["math/bits.overflowError"], apart := false, narrowed := true }
def RotationImagesUptoSaid : Prop := rotationImagesUptoRow.holds Tryz.pinned (OpenSpec.upto rotationImagesSpec)

/-- 'narrowslaw04.RotationProducts', WHERE WHAT IT READS IS OF BULK AT MOST 1048576: true; the input reads as it did. -/
def rotationProductsUptoRow : OpenClaim := { program := "ytnmnglcdoegbiaagreat", sum := "990b61f89673a2e4ac080baf96eafbcc9ba3148ba67c18e221567924f774bfc2", func := "narrows/narrowslaw04.RotationProducts", spec := "rotationProducts", unfollowed := true, recurses := true, named := ["math/bits.overflowError"], apart := false, narrowed := true }
def RotationProductsUptoSaid : Prop := rotationProductsUptoRow.holds Tryz.pinned (OpenSpec.upto rotationProductsSpec)

/-- 'narrowslaw04.RotationMiddle', WHERE WHAT IT READS IS OF BULK AT MOST 1048576: true; the input reads as it did. -/
def rotationMiddleUptoRow : OpenClaim := { program := "ytnmnglcdoegbiaagreat", sum := "990b61f89673a2e4ac080baf96eafbcc9ba3148ba67c18e221567924f774bfc2", func := "narrows/narrowslaw04.RotationMiddle", spec := "rotationMiddle", unfollowed := true, recurses := true, named := ["math/bits.overflowError"], apart := false, narrowed := true }
def RotationMiddleUptoSaid : Prop := rotationMiddleUptoRow.holds Tryz.pinned (OpenSpec.upto rotationMiddleSpec)

/-- 'narrowslaw04.RotationOrders', WHERE WHAT IT READS IS OF BULK AT MOST 1048576: true; the input reads as it did. -/
def rotationOrdersUptoRow : OpenClaim := { program := "ytnmnglcdoegbiaagreat", sum := "990b61f89673a2e4ac080baf96eafbcc9ba3148ba67c18e221567924f774bfc2", func := "narrows/narrowslaw04.RotationOrders", spec := "rotationOrders", unfollowed := true, recurses := true, named := ["math/bits.overflowError"], apart := false, narrowed := true }
def RotationOrdersUptoSaid : Prop := rotationOrdersUptoRow.holds Tryz.pinned (OpenSpec.upto rotationOrdersSpec)

/-- 'narrowslaw04.RotationCompares', WHERE WHAT IT READS IS OF BULK AT MOST 1048576: true; the input reads as it did. -/
def rotationComparesUptoRow : OpenClaim := { program := "ytnmnglcdoegbiaagreat", sum := "990b61f89673a2e4ac080baf96eafbcc9ba3148ba67c18e221567924f774bfc2", func := "narrows/narrowslaw04.RotationCompares", spec := "rotationCompares", unfollowed := true, recurses := true, named := ["math/bits.overflowError"], apart := false, narrowed := true }
def RotationComparesUptoSaid : Prop := rotationComparesUptoRow.holds Tryz.pinned (OpenSpec.upto rotationComparesSpec)

/-- 'narrowslaw04.RotationCorner', WHERE WHAT IT READS IS OF BULK AT MOST 1048576: true; the input reads as it did. -/
def rotationCornerUptoRow : OpenClaim := { program := "ytnmnglcdoegbiaagreat", sum := "990b61f89673a2e4ac080baf96eafbcc9ba3148ba67c18e221567924f774bfc2", func := "narrows/narrowslaw04.RotationCorner", spec := "rotationCorner", unfollowed := true, recurses := true, named := ["math/bits.overflowError"], apart := false, narrowed := true }
def RotationCornerUptoSaid : Prop := rotationCornerUptoRow.holds Tryz.pinned (OpenSpec.upto rotationCornerSpec)

end Rows
end Go.Proofs.YtnmnglcdoegbiaaGreat
