/-
  No cell of these rows narrows 'for every input' (looked for: loops, veiled, ifaces, maps, wideKeys, modest, calm, conditions, laid).
  DERIVED. THE GIVEN ROWS OF THIS SEAT. 7 by the template 'for every input the law returns true; each argument reads behind the call as it read before'; 0 by the template 'total and deterministic' (their statements: YtkmblomkocfldaaTotals.lean).
  GIVEN WITH THE SEED: the statements are not yours to turn. If you find one false, say at which input.
  Laid BY PROGRAM, IN A SANDBOX (cutbox-rows.mjs): the forced cells as the released guide's own fill.sh prints them over the translation 896b9b8f2b10c2db… (all of the seat's roots in one cut). By AI agents, Wed Nov 11 2026. No macro, syntax, notation, axiom, sorry.
-/
import Derived.Test.YtkmblomkocfldaaChecked
import GoSem.Claim
import GoSem.ClaimJoined
import GoSem.ClaimMapViews
import Derived.JoinedTies
import Derived.KernelRfl
namespace Go.Proofs.Ytkmblomkocfldaa
/- THE CELL 'sum', in the pinned program and in every row, IS THE sha256 OF THE DUMP (.gsa) THAT YtkmblomkocfldaaProg.lean LOADS. Nothing in Lean hashes anything: it is a label: what it is worth is what the hold of that sum in a sandbox is worth. -/
noncomputable def Try.pinned : Pinned := { name := "ytkmblomkocfldaa", sum := "896b9b8f2b10c2dbc76ed0f6c49d8d8a48c0223c723e6d16acf2236b2f2c2b63", checked := Try.checked }
namespace Rows
def none {H : Type} : Left H := { results := [], args := [] }

/-- 'narrowslaw02.RationalFloors': WHATEVER THE INPUT: true; the input reads as it did. -/
def rationalFloorsSpec : ChangeSpec := { name := "rationalFloors", fn := fun _ => fun
  | [d] => { results := [.lit (.bool true)], args := [d] }
  | _ => none }
def rationalFloorsRow : OpenClaim := { program := "ytkmblomkocfldaa", sum := "896b9b8f2b10c2dbc76ed0f6c49d8d8a48c0223c723e6d16acf2236b2f2c2b63", func := "narrows/narrowslaw02.RationalFloors", spec := "rationalFloors", inPlace := ["internal/abi.NoEscape"], unfollowed := true, recurses := true, named := ["math/bits.overflowError"], apart := false }
def RationalFloorsSaid : Prop := rationalFloorsRow.holds Try.pinned (OpenSpec.ofChange rationalFloorsSpec)

/-- ITS FALSE NEIGHBOUR: 'it returns false'. Refute it at one input. -/
def rationalFloorsWrong : ChangeSpec := { name := "rationalFloors", fn := fun _ => fun
  | [d] => { results := [.lit (.bool false)], args := [d] }
  | _ => none }
def RationalFloorsWrongFalsely : Prop := rationalFloorsRow.holds Try.pinned (OpenSpec.ofChange rationalFloorsWrong)

/-- 'narrowslaw02.RationalField': WHATEVER THE INPUT: true; the input reads as it did. -/
def rationalFieldSpec : ChangeSpec := { name := "rationalField", fn := fun _ => fun
  | [d1, d2, d3] => { results := [.lit (.bool true)], args := [d1, d2, d3] }
  | _ => none }
def rationalFieldRow : OpenClaim := { program := "ytkmblomkocfldaa", sum := "896b9b8f2b10c2dbc76ed0f6c49d8d8a48c0223c723e6d16acf2236b2f2c2b63", func := "narrows/narrowslaw02.RationalField", spec := "rationalField", inPlace := ["internal/abi.NoEscape"], unfollowed := true, recurses := true, named := ["math/bits.overflowError"], apart := false }
def RationalFieldSaid : Prop := rationalFieldRow.holds Try.pinned (OpenSpec.ofChange rationalFieldSpec)

/-- ITS FALSE NEIGHBOUR: 'it returns false'. Refute it at one input. -/
def rationalFieldWrong : ChangeSpec := { name := "rationalField", fn := fun _ => fun
  | [d1, d2, d3] => { results := [.lit (.bool false)], args := [d1, d2, d3] }
  | _ => none }
def RationalFieldWrongFalsely : Prop := rationalFieldRow.holds Try.pinned (OpenSpec.ofChange rationalFieldWrong)

/-- 'narrowslaw02.RationalOrder': WHATEVER THE INPUT: true; the input reads as it did. -/
def rationalOrderSpec : ChangeSpec := { name := "rationalOrder", fn := fun _ => fun
  | [d1, d2, d3] => { results := [.lit (.bool true)], args := [d1, d2, d3] }
  | _ => none }
def rationalOrderRow : OpenClaim := { program := "ytkmblomkocfldaa", sum := "896b9b8f2b10c2dbc76ed0f6c49d8d8a48c0223c723e6d16acf2236b2f2c2b63", func := "narrows/narrowslaw02.RationalOrder", spec := "rationalOrder", inPlace := ["internal/abi.NoEscape"], unfollowed := true, recurses := true, named := ["math/bits.overflowError"], apart := false }
def RationalOrderSaid : Prop := rationalOrderRow.holds Try.pinned (OpenSpec.ofChange rationalOrderSpec)

/-- ITS FALSE NEIGHBOUR: 'it returns false'. Refute it at one input. -/
def rationalOrderWrong : ChangeSpec := { name := "rationalOrder", fn := fun _ => fun
  | [d1, d2, d3] => { results := [.lit (.bool false)], args := [d1, d2, d3] }
  | _ => none }
def RationalOrderWrongFalsely : Prop := rationalOrderRow.holds Try.pinned (OpenSpec.ofChange rationalOrderWrong)

/-- 'narrowslaw02.RationalSimple': WHATEVER THE INPUT: true; the input reads as it did. -/
def rationalSimpleSpec : ChangeSpec := { name := "rationalSimple", fn := fun _ => fun
  | [d1, d2] => { results := [.lit (.bool true)], args := [d1, d2] }
  | _ => none }
def rationalSimpleRow : OpenClaim := { program := "ytkmblomkocfldaa", sum := "896b9b8f2b10c2dbc76ed0f6c49d8d8a48c0223c723e6d16acf2236b2f2c2b63", func := "narrows/narrowslaw02.RationalSimple", spec := "rationalSimple", inPlace := ["internal/abi.NoEscape"], unfollowed := true, recurses := true, named := ["math/bits.overflowError"], apart := false }
def RationalSimpleSaid : Prop := rationalSimpleRow.holds Try.pinned (OpenSpec.ofChange rationalSimpleSpec)

/-- ITS FALSE NEIGHBOUR: 'it returns false'. Refute it at one input. -/
def rationalSimpleWrong : ChangeSpec := { name := "rationalSimple", fn := fun _ => fun
  | [d1, d2] => { results := [.lit (.bool false)], args := [d1, d2] }
  | _ => none }
def RationalSimpleWrongFalsely : Prop := rationalSimpleRow.holds Try.pinned (OpenSpec.ofChange rationalSimpleWrong)

/-- 'narrowslaw02.RationalMakes': WHATEVER THE INPUT: true; the input reads as it did. -/
def rationalMakesSpec : ChangeSpec := { name := "rationalMakes", fn := fun _ => fun
  | [d1, d2, d3, d4, d5] => { results := [.lit (.bool true)], args := [d1, d2, d3, d4, d5] }
  | _ => none }
def rationalMakesRow : OpenClaim := { program := "ytkmblomkocfldaa", sum := "896b9b8f2b10c2dbc76ed0f6c49d8d8a48c0223c723e6d16acf2236b2f2c2b63", func := "narrows/narrowslaw02.RationalMakes", spec := "rationalMakes", inPlace := ["internal/abi.NoEscape"], unfollowed := true, recurses := true, named := ["math/bits.overflowError"], apart := false }
def RationalMakesSaid : Prop := rationalMakesRow.holds Try.pinned (OpenSpec.ofChange rationalMakesSpec)

/-- ITS FALSE NEIGHBOUR: 'it returns false'. Refute it at one input. -/
def rationalMakesWrong : ChangeSpec := { name := "rationalMakes", fn := fun _ => fun
  | [d1, d2, d3, d4, d5] => { results := [.lit (.bool false)], args := [d1, d2, d3, d4, d5] }
  | _ => none }
def RationalMakesWrongFalsely : Prop := rationalMakesRow.holds Try.pinned (OpenSpec.ofChange rationalMakesWrong)

/-- 'narrowslaw02.RationalCanonical': WHATEVER THE INPUT: true; the input reads as it did. -/
def rationalCanonicalSpec : ChangeSpec := { name := "rationalCanonical", fn := fun _ => fun
  | [d1, d2] => { results := [.lit (.bool true)], args := [d1, d2] }
  | _ => none }
def rationalCanonicalRow : OpenClaim := { program := "ytkmblomkocfldaa", sum := "896b9b8f2b10c2dbc76ed0f6c49d8d8a48c0223c723e6d16acf2236b2f2c2b63", func := "narrows/narrowslaw02.RationalCanonical", spec := "rationalCanonical", inPlace := ["internal/abi.NoEscape"], unfollowed := true, recurses := true, named := ["math/bits.overflowError"], apart := false }
def RationalCanonicalSaid : Prop := rationalCanonicalRow.holds Try.pinned (OpenSpec.ofChange rationalCanonicalSpec)

/-- ITS FALSE NEIGHBOUR: 'it returns false'. Refute it at one input. -/
def rationalCanonicalWrong : ChangeSpec := { name := "rationalCanonical", fn := fun _ => fun
  | [d1, d2] => { results := [.lit (.bool false)], args := [d1, d2] }
  | _ => none }
def RationalCanonicalWrongFalsely : Prop := rationalCanonicalRow.holds Try.pinned (OpenSpec.ofChange rationalCanonicalWrong)

/-- 'narrowslaw02.RationalRoundTrip': WHATEVER THE INPUT: true; the input reads as it did. -/
def rationalRoundTripSpec : ChangeSpec := { name := "rationalRoundTrip", fn := fun _ => fun
  | [d1, d2] => { results := [.lit (.bool true)], args := [d1, d2] }
  | _ => none }
def rationalRoundTripRow : OpenClaim := { program := "ytkmblomkocfldaa", sum := "896b9b8f2b10c2dbc76ed0f6c49d8d8a48c0223c723e6d16acf2236b2f2c2b63", func := "narrows/narrowslaw02.RationalRoundTrip", spec := "rationalRoundTrip", inPlace := ["internal/abi.NoEscape", "internal/bytealg.IndexByteString", "internal/bytealg.IndexString"], unfollowed := true, recurses := true, named := ["math/bits.overflowError", "internal/bytealg.MaxLen"], apart := false }
def RationalRoundTripSaid : Prop := rationalRoundTripRow.holds Try.pinned (OpenSpec.ofChange rationalRoundTripSpec)

/-- ITS FALSE NEIGHBOUR: 'it returns false'. Refute it at one input. -/
def rationalRoundTripWrong : ChangeSpec := { name := "rationalRoundTrip", fn := fun _ => fun
  | [d1, d2] => { results := [.lit (.bool false)], args := [d1, d2] }
  | _ => none }
def RationalRoundTripWrongFalsely : Prop := rationalRoundTripRow.holds Try.pinned (OpenSpec.ofChange rationalRoundTripWrong)

/- THE SECOND FORM. 'bulk': how many values and letters a reading holds, each counted each time it is reached (what is shared counts as often as it is met; a slice's spare places count too). A statement '..UptoSaid' is the law's where the arguments, and the package variables that the reading takes, are together of bulk at most 1048576: NARROWER than '..Said'. Prove '..Said' where nothing that the law and all that it calls make is longer than what came in: it says more and counts as full. Else prove '..UptoSaid'. A law counts once. -/
mutual
def uptoBulk {H : Type} : DataW H → Nat
  | .lit (.string bytes) => bytes.length + 1
  | .lit _ => 1
  | .nil => 1
  | .ptr d => uptoBulk d + 1
  | .slice elems spare => uptoBulkAll elems + uptoBulkAll spare + 1
  | .agg parts => uptoBulkAll parts + 1
  | .iface _ d => uptoBulk d + 1
  | .map entries => uptoBulkEntries entries + 1
  | .held _ => 1
def uptoBulkAll {H : Type} : List (DataW H) → Nat
  | [] => 0
  | d :: r => uptoBulk d + uptoBulkAll r
def uptoBulkEntries {H : Type} : List (Lit × DataW H) → Nat
  | [] => 0
  | x :: r => uptoBulkEntry x + uptoBulkEntries r
def uptoBulkEntry {H : Type} : Lit × DataW H → Nat
  | (.string bytes, d) => bytes.length + uptoBulk d + 1
  | (_, d) => uptoBulk d + 1
 end
def uptoSmall : (H : Type) → List (DataW H) → Bool := fun _ ds => decide (uptoBulkAll ds ≤ 1048576)
def OpenSpec.upto (s : _root_.Go.ChangeSpec) : _root_.Go.OpenSpec := { _root_.Go.OpenSpec.ofChange s with cond := some uptoSmall }

/-- 'narrowslaw02.RationalFloors', WHERE WHAT IT READS IS OF BULK AT MOST 1048576: true; the input reads as it did. -/
def rationalFloorsUptoRow : OpenClaim := { program := "ytkmblomkocfldaa", sum := "896b9b8f2b10c2dbc76ed0f6c49d8d8a48c0223c723e6d16acf2236b2f2c2b63", func := "narrows/narrowslaw02.RationalFloors", spec := "rationalFloors", inPlace := ["internal/abi.NoEscape"], unfollowed := true, recurses := true, named := ["math/bits.overflowError"], apart := false, narrowed := true }
def RationalFloorsUptoSaid : Prop := rationalFloorsUptoRow.holds Try.pinned (OpenSpec.upto rationalFloorsSpec)

/-- 'narrowslaw02.RationalField', WHERE WHAT IT READS IS OF BULK AT MOST 1048576: true; the input reads as it did. -/
def rationalFieldUptoRow : OpenClaim := { program := "ytkmblomkocfldaa", sum := "896b9b8f2b10c2dbc76ed0f6c49d8d8a48c0223c723e6d16acf2236b2f2c2b63", func := "narrows/narrowslaw02.RationalField", spec := "rationalField", inPlace := ["internal/abi.NoEscape"], unfollowed := true, recurses := true, named := ["math/bits.overflowError"], apart := false, narrowed := true }
def RationalFieldUptoSaid : Prop := rationalFieldUptoRow.holds Try.pinned (OpenSpec.upto rationalFieldSpec)

/-- 'narrowslaw02.RationalOrder', WHERE WHAT IT READS IS OF BULK AT MOST 1048576: true; the input reads as it did. -/
def rationalOrderUptoRow : OpenClaim := { program := "ytkmblomkocfldaa", sum := "896b9b8f2b10c2dbc76ed0f6c49d8d8a48c0223c723e6d16acf2236b2f2c2b63", func := "narrows/narrowslaw02.RationalOrder", spec := "rationalOrder", inPlace := ["internal/abi.NoEscape"], unfollowed := true, recurses := true, named := ["math/bits.overflowError"], apart := false, narrowed := true }
def RationalOrderUptoSaid : Prop := rationalOrderUptoRow.holds Try.pinned (OpenSpec.upto rationalOrderSpec)

/-- 'narrowslaw02.RationalSimple', WHERE WHAT IT READS IS OF BULK AT MOST 1048576: true; the input reads as it did. -/
def rationalSimpleUptoRow : OpenClaim := { program := "ytkmblomkocfldaa", sum := "896b9b8f2b10c2dbc76ed0f6c49d8d8a48c0223c723e6d16acf2236b2f2c2b63", func := "narrows/narrowslaw02.RationalSimple", spec := "rationalSimple", inPlace := ["internal/abi.NoEscape"], unfollowed := true, recurses := true, named := ["math/bits.overflowError"], apart := false, narrowed := true }
def RationalSimpleUptoSaid : Prop := rationalSimpleUptoRow.holds Try.pinned (OpenSpec.upto rationalSimpleSpec)

/-- 'narrowslaw02.RationalMakes', WHERE WHAT IT READS IS OF BULK AT MOST 1048576: true; the input reads as it did. -/
def rationalMakesUptoRow : OpenClaim := { program := "ytkmblomkocfldaa", sum := "896b9b8f2b10c2dbc76ed0f6c49d8d8a48c0223c723e6d16acf2236b2f2c2b63", func := "narrows/narrowslaw02.RationalMakes", spec := "rationalMakes", inPlace := ["internal/abi.NoEscape"], unfollowed := true, recurses := true, named := ["math/bits.overflowError"], apart := false, narrowed := true }
def RationalMakesUptoSaid : Prop := rationalMakesUptoRow.holds Try.pinned (OpenSpec.upto rationalMakesSpec)

/-- 'narrowslaw02.RationalCanonical', WHERE WHAT IT READS IS OF BULK AT MOST 1048576: true; the input reads as it did. -/
def rationalCanonicalUptoRow : OpenClaim := { program := "ytkmblomkocfldaa", sum := "896b9b8f2b10c2dbc76ed0f6c49d8d8a48c0223c723e6d16acf2236b2f2c2b63", func := "narrows/narrowslaw02.RationalCanonical", spec := "rationalCanonical", inPlace := ["internal/abi.NoEscape"], unfollowed := true, recurses := true, named := ["math/bits.overflowError"], apart := false, narrowed := true }
def RationalCanonicalUptoSaid : Prop := rationalCanonicalUptoRow.holds Try.pinned (OpenSpec.upto rationalCanonicalSpec)

/-- 'narrowslaw02.RationalRoundTrip', WHERE WHAT IT READS IS OF BULK AT MOST 1048576: true; the input reads as it did. -/
def rationalRoundTripUptoRow : OpenClaim := { program := "ytkmblomkocfldaa", sum := "896b9b8f2b10c2dbc76ed0f6c49d8d8a48c0223c723e6d16acf2236b2f2c2b63", func := "narrows/narrowslaw02.RationalRoundTrip", spec := "rationalRoundTrip", inPlace := ["internal/abi.NoEscape", "internal/bytealg.IndexByteString", "internal/bytealg.IndexString"], unfollowed := true, recurses := true, named := ["math/bits.overflowError", "internal/bytealg.MaxLen"], apart := false, narrowed := true }
def RationalRoundTripUptoSaid : Prop := rationalRoundTripUptoRow.holds Try.pinned (OpenSpec.upto rationalRoundTripSpec)

end Rows
end Go.Proofs.Ytkmblomkocfldaa
