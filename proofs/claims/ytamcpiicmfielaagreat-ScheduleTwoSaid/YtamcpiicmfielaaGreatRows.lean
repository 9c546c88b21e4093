/-
  No cell of these rows narrows 'for every input' (looked for: loops, veiled, ifaces, maps, wideKeys, modest, calm, conditions, laid).
  DERIVED. THE GIVEN ROWS OF THIS SEAT. 4 by the template 'for every input the law returns true; each argument reads behind the call as it read before'; 0 by the template 'total and deterministic' (their statements: YtamcpiicmfielaaGreatTotals.lean).
  GIVEN WITH THE SEED: the statements are not yours to turn. If you find one false, say at which input.
  Laid BY PROGRAM, IN A SANDBOX (cutbox-rows.mjs): the forced cells as the released guide's own fill.sh prints them over the translation bfa666f7cca0038b… (all of the seat's roots in one cut). By AI agents, Wed Nov 11 2026. No macro, syntax, notation, axiom, sorry.
-/
import Derived.Test.YtamcpiicmfielaaGreatChecked
import GoSem.Claim
import GoSem.ClaimJoined
import GoSem.ClaimMapViews
import Derived.JoinedTies
import Derived.KernelRfl
namespace Go.Proofs.YtamcpiicmfielaaGreat
/- THE CELL 'sum', in the pinned program and in every row, IS THE sha256 OF THE DUMP (.gsa) THAT YtamcpiicmfielaaGreatProg.lean LOADS. Nothing in Lean hashes anything: it is a label: what it is worth is what the hold of that sum in a sandbox is worth. -/
noncomputable def Tryz.pinned : Pinned := { name := "ytamcpiicmfielaagreat", sum := "bfa666f7cca0038b7709bd92c4ccdc9b06a5140c4cdbd80eb2a9333f82b272d8", checked := Tryz.checked }
namespace Rows
def none {H : Type} : Left H := { results := [], args := [] }

/-- 'narrowslaw51.ScheduleReads': WHATEVER THE INPUT: true; the input reads as it did. -/
def scheduleReadsSpec : ChangeSpec := { name := "scheduleReads", fn := fun _ => fun
  | [d1, d2] => { results := [.lit (.bool true)], args := [d1, d2] }
  | _ => none }
def scheduleReadsRow : OpenClaim := { program := "ytamcpiicmfielaagreat", sum := "bfa666f7cca0038b7709bd92c4ccdc9b06a5140c4cdbd80eb2a9333f82b272d8", func := "narrows/narrowslaw51.ScheduleReads", spec := "scheduleReads", unfollowed := true, recurses := true, named := ["math/bits.overflowError"], apart := false }
def ScheduleReadsSaid : Prop := scheduleReadsRow.holds Tryz.pinned (OpenSpec.ofChange scheduleReadsSpec)

/-- ITS FALSE NEIGHBOUR: 'it returns false'. Refute it at one input. -/
def scheduleReadsWrong : ChangeSpec := { name := "scheduleReads", fn := fun _ => fun
  | [d1, d2] => { results := [.lit (.bool false)], args := [d1, d2] }
  | _ => none }
def ScheduleReadsWrongFalsely : Prop := scheduleReadsRow.holds Tryz.pinned (OpenSpec.ofChange scheduleReadsWrong)

/-- 'narrowslaw51.ScheduleJoined': WHATEVER THE INPUT: true; the input reads as it did. -/
def scheduleJoinedSpec : ChangeSpec := { name := "scheduleJoined", fn := fun _ => fun
  | [d1, d2, d3] => { results := [.lit (.bool true)], args := [d1, d2, d3] }
  | _ => none }
def scheduleJoinedRow : OpenClaim := { program := "ytamcpiicmfielaagreat", sum := "bfa666f7cca0038b7709bd92c4ccdc9b06a5140c4cdbd80eb2a9333f82b272d8", func := "narrows/narrowslaw51.ScheduleJoined", spec := "scheduleJoined", unfollowed := true, recurses := true, named := ["math/bits.overflowError"], apart := false }
def ScheduleJoinedSaid : Prop := scheduleJoinedRow.holds Tryz.pinned (OpenSpec.ofChange scheduleJoinedSpec)

/-- ITS FALSE NEIGHBOUR: 'it returns false'. Refute it at one input. -/
def scheduleJoinedWrong : ChangeSpec := { name := "scheduleJoined", fn := fun _ => fun
  | [d1, d2, d3] => { results := [.lit (.bool false)], args := [d1, d2, d3] }
  | _ => none }
def ScheduleJoinedWrongFalsely : Prop := scheduleJoinedRow.holds Tryz.pinned (OpenSpec.ofChange scheduleJoinedWrong)

/-- 'narrowslaw51.ScheduleLegs': WHATEVER THE INPUT: true; the input reads as it did. -/
def scheduleLegsSpec : ChangeSpec := { name := "scheduleLegs", fn := fun _ => fun
  | [d1, d2, d3, d4] => { results := [.lit (.bool true)], args := [d1, d2, d3, d4] }
  | _ => none }
def scheduleLegsRow : OpenClaim := { program := "ytamcpiicmfielaagreat", sum := "bfa666f7cca0038b7709bd92c4ccdc9b06a5140c4cdbd80eb2a9333f82b272d8", func := "narrows/narrowslaw51.ScheduleLegs", spec := "scheduleLegs", unfollowed := true, recurses := true, named := ["math/bits.overflowError"], apart := false }
def ScheduleLegsSaid : Prop := scheduleLegsRow.holds Tryz.pinned (OpenSpec.ofChange scheduleLegsSpec)

/-- ITS FALSE NEIGHBOUR: 'it returns false'. Refute it at one input. -/
def scheduleLegsWrong : ChangeSpec := { name := "scheduleLegs", fn := fun _ => fun
  | [d1, d2, d3, d4] => { results := [.lit (.bool false)], args := [d1, d2, d3, d4] }
  | _ => none }
def ScheduleLegsWrongFalsely : Prop := scheduleLegsRow.holds Tryz.pinned (OpenSpec.ofChange scheduleLegsWrong)

/-- 'narrowslaw51.ScheduleTwo': WHATEVER THE INPUT: true; the input reads as it did. -/
def scheduleTwoSpec : ChangeSpec := { name := "scheduleTwo", fn := fun _ => fun
  | [d1, d2] => { results := [.lit (.bool true)], args := [d1, d2] }
  | _ => none }
def scheduleTwoRow : OpenClaim := { program := "ytamcpiicmfielaagreat", sum := "bfa666f7cca0038b7709bd92c4ccdc9b06a5140c4cdbd80eb2a9333f82b272d8", func := "narrows/narrowslaw51.ScheduleTwo", spec := "scheduleTwo", unfollowed := true, recurses := true, named := ["math/bits.overflowError"], apart := false }
def ScheduleTwoSaid : Prop := scheduleTwoRow.holds Tryz.pinned (OpenSpec.ofChange scheduleTwoSpec)

/-- ITS FALSE NEIGHBOUR: 'it returns false'. Refute it at one input. -/
def scheduleTwoWrong : ChangeSpec := { name := "scheduleTwo", fn := fun _ => fun
  | [d1, d2] => { results := [.lit (.bool false)], args := [d1, d2] }
  | _ => none }
def ScheduleTwoWrongFalsely : Prop := scheduleTwoRow.holds Tryz.pinned (OpenSpec.ofChange scheduleTwoWrong)

/- THE SECOND FORM. 'bulk': how many values and letters a reading holds, each counted each time it is reached (what is shared counts as often as it is met; a slice's spare places count too). A statement '..UptoSaid' is the law's where the arguments, and the package variables that the reading takes, are together of bulk at most 1048576: NARROWER than '..Said'. Prove '..Said' where nothing that the law and all that it calls make is longer than what came in: it says more and counts as full. Else prove '..UptoSaid'. A law counts once. -/
mutual
def uptoBulk {H : Type} : DataW H → Nat
  | .lit (.string bytes) => bytes.length + 1
  | .lit _ => 1
  | .nil => 1
  | .ptr d => uptoBulk d + 1
  | .slice elems spare => uptoBulkAll elems + uptoBulkAll spare + 1
  | .agg parts => uptoBulkAll parts + 1
  | .iface _ d => uptoBulk d + 1
  | .map entries => uptoBulkEntries entries + 1
  | .held _ => 1
def uptoBulkAll {H : Type} : List (DataW H) → Nat
  | [] => 0
  | d :: r => uptoBulk d + uptoBulkAll r
def uptoBulkEntries {H : Type} : List (Lit × DataW H) → Nat
  | [] => 0
  | x :: r => uptoBulkEntry x + uptoBulkEntries r
def uptoBulkEntry {H : Type} : Lit × DataW H → Nat
  | (.string bytes, d) => bytes.length + uptoBulk d + 1
  | (_, d) => uptoBulk d + 1
 end
def uptoSmall : (H : Type) → List (DataW H) → Bool := fun _ ds => decide (uptoBulkAll ds ≤ 1048576)
def OpenSpec.upto (s : _root_.Go.ChangeSpec) : _root_.Go.OpenSpec := { _root_.Go.OpenSpec.ofChange s with cond := some uptoSmall }

/-- 'narrowslaw51.ScheduleReads', WHERE WHAT IT READS IS OF BULK AT MOST 1048576: true; the input reads as it did. -/
def scheduleReadsUptoRow : OpenClaim := { program := "ytamcpiicmfielaagreat", sum := "bfa666f7cca0038b7709bd92c4ccdc9b06a5140c4cdbd80eb2a9333f82b272d8", func := "narrows/narrowslaw51.ScheduleReads", spec := "scheduleReads", unfollowed := true, recurses := true, named := ["math/bits.overflowError"], apart := false, narrowed := true }
def ScheduleReadsUptoSaid : Prop := scheduleReadsUptoRow.holds Tryz.pinned (OpenSpec.upto scheduleReadsSpec)

/-- 'narrowslaw51.ScheduleJoined', WHERE WHAT IT READS IS OF BULK AT MOST 1048576: true; the input reads as it did. -/
def scheduleJoinedUptoRow : OpenClaim := { program := "ytamcpiicmfielaagreat", sum := "bfa666f7cca0038b7709bd92c4ccdc9b06a5140c4cdbd80eb2a9333f82b272d8", func := "narrows/narrowslaw51.ScheduleJoined", spec := "scheduleJoined", unfollowed := true, recurses := true, named := ["math/bits.overflowError"], apart := false, narrowed := true }
def ScheduleJoinedUptoSaid : Prop := scheduleJoinedUptoRow.holds Tryz.pinned (OpenSpec.upto scheduleJoinedSpec)

/-- 'narrowslaw51.ScheduleLegs', WHERE WHAT IT READS IS OF BULK AT MOST 1048576: true; the input reads as it did. -/
def scheduleLegsUptoRow : OpenClaim := { program := "ytamcpiicmfielaagreat", sum := "bfa666f7cca0038b7709bd92c4ccdc9b06a5140c4cdbd80eb2a9333f82b272d8", func := "narrows/narrowslaw51.ScheduleLegs", spec := "scheduleLegs", unfollowed := true, recurses := true, named := ["math/bits.overflowError"], apart := false, narrowed := true }
def ScheduleLegsUptoSaid : Prop := scheduleLegsUptoRow.holds Tryz.pinned (OpenSpec.upto scheduleLegsSpec)

/-- 'narrowslaw51.ScheduleTwo', WHERE WHAT IT READS IS OF BULK AT MOST 1048576: true; the input reads as it did. -/
def scheduleTwoUptoRow : OpenClaim := { program := "ytamcpiicmfielaagreat", sum := "bfa666f7cca0038b7709bd92c4ccdc9b06a5140c4cdbd80eb2a9333f82b272d8", func := "narrows/narrowslaw51.ScheduleTwo", spec := "scheduleTwo", unfollowed := true, recurses := true, named := ["math/bits.overflowError"], apart := false, narrowed := true }
def ScheduleTwoUptoSaid : Prop := scheduleTwoUptoRow.holds Tryz.pinned (OpenSpec.upto scheduleTwoSpec)

end Rows
end Go.Proofs.YtamcpiicmfielaaGreat
