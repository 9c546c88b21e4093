/-
  No cell of these rows narrows 'for every input' (looked for: loops, veiled, ifaces, maps, wideKeys, modest, calm, conditions, laid).
  DERIVED. THE GIVEN ROWS OF THIS SEAT. 6 by the template 'for every input the law returns true; each argument reads behind the call as it read before'; 0 by the template 'total and deterministic' (their statements: YtdnmkehncpfnnaaGreatTotals.lean).
  GIVEN WITH THE SEED: the statements are not yours to turn. If you find one false, say at which input.
  Laid BY PROGRAM, IN A SANDBOX (cutbox-rows.mjs): the forced cells as the released guide's own fill.sh prints them over the translation e3c8e866e430fc14… (all of the seat's roots in one cut). By AI agents, Wed Nov 11 2026. No macro, syntax, notation, axiom, sorry.
-/
import Derived.Test.YtdnmkehncpfnnaaGreatChecked
import GoSem.Claim
import GoSem.ClaimJoined
import GoSem.ClaimMapViews
import Derived.JoinedTies
import Derived.KernelRfl
namespace Go.Proofs.YtdnmkehncpfnnaaGreat
/- THE CELL 'sum', in the pinned program and in every row, IS THE sha256 OF THE DUMP (.gsa) THAT YtdnmkehncpfnnaaGreatProg.lean LOADS. Nothing in Lean hashes anything: it is a label: what it is worth is what the hold of that sum in a sandbox is worth. -/
noncomputable def Tryz.pinned : Pinned := { name := "ytdnmkehncpfnnaagreat", sum := "e3c8e866e430fc145d60784084b40af929b6be03d6b9e392002faa193fcecb26", checked := Tryz.checked }
namespace Rows
def none {H : Type} : Left H := { results := [], args := [] }

/-- 'narrowslaw51.ScheduleMake': WHATEVER THE INPUT: true; the input reads as it did. -/
def scheduleMakeSpec : ChangeSpec := { name := "scheduleMake", fn := fun _ => fun
  | [d1, d2, d3] => { results := [.lit (.bool true)], args := [d1, d2, d3] }
  | _ => none }
def scheduleMakeRow : OpenClaim := { program := "ytdnmkehncpfnnaagreat", sum := "e3c8e866e430fc145d60784084b40af929b6be03d6b9e392002faa193fcecb26", func := "narrows/narrowslaw51.ScheduleMake", spec := "scheduleMake", unfollowed := true, recurses := true, named := ["math/bits.overflowError"], apart := false }
def ScheduleMakeSaid : Prop := scheduleMakeRow.holds Tryz.pinned (OpenSpec.ofChange scheduleMakeSpec)

/-- ITS FALSE NEIGHBOUR: 'it returns false'. Refute it at one input. -/
def scheduleMakeWrong : ChangeSpec := { name := "scheduleMake", fn := fun _ => fun
  | [d1, d2, d3] => { results := [.lit (.bool false)], args := [d1, d2, d3] }
  | _ => none }
def ScheduleMakeWrongFalsely : Prop := scheduleMakeRow.holds Tryz.pinned (OpenSpec.ofChange scheduleMakeWrong)

/-- 'narrowslaw51.SchedulePlaces': WHATEVER THE INPUT: true; the input reads as it did. -/
def schedulePlacesSpec : ChangeSpec := { name := "schedulePlaces", fn := fun _ => fun
  | [d1, d2, d3] => { results := [.lit (.bool true)], args := [d1, d2, d3] }
  | _ => none }
def schedulePlacesRow : OpenClaim := { program := "ytdnmkehncpfnnaagreat", sum := "e3c8e866e430fc145d60784084b40af929b6be03d6b9e392002faa193fcecb26", func := "narrows/narrowslaw51.SchedulePlaces", spec := "schedulePlaces", unfollowed := true, recurses := true, named := ["math/bits.overflowError"], apart := false }
def SchedulePlacesSaid : Prop := schedulePlacesRow.holds Tryz.pinned (OpenSpec.ofChange schedulePlacesSpec)

/-- ITS FALSE NEIGHBOUR: 'it returns false'. Refute it at one input. -/
def schedulePlacesWrong : ChangeSpec := { name := "schedulePlaces", fn := fun _ => fun
  | [d1, d2, d3] => { results := [.lit (.bool false)], args := [d1, d2, d3] }
  | _ => none }
def SchedulePlacesWrongFalsely : Prop := schedulePlacesRow.holds Tryz.pinned (OpenSpec.ofChange schedulePlacesWrong)

/-- 'narrowslaw51.ScheduleDelays': WHATEVER THE INPUT: true; the input reads as it did. -/
def scheduleDelaysSpec : ChangeSpec := { name := "scheduleDelays", fn := fun _ => fun
  | [d1, d2, d3, d4] => { results := [.lit (.bool true)], args := [d1, d2, d3, d4] }
  | _ => none }
def scheduleDelaysRow : OpenClaim := { program := "ytdnmkehncpfnnaagreat", sum := "e3c8e866e430fc145d60784084b40af929b6be03d6b9e392002faa193fcecb26", func := "narrows/narrowslaw51.ScheduleDelays", spec := "scheduleDelays", unfollowed := true, recurses := true, named := ["math/bits.overflowError"], apart := false }
def ScheduleDelaysSaid : Prop := scheduleDelaysRow.holds Tryz.pinned (OpenSpec.ofChange scheduleDelaysSpec)

/-- ITS FALSE NEIGHBOUR: 'it returns false'. Refute it at one input. -/
def scheduleDelaysWrong : ChangeSpec := { name := "scheduleDelays", fn := fun _ => fun
  | [d1, d2, d3, d4] => { results := [.lit (.bool false)], args := [d1, d2, d3, d4] }
  | _ => none }
def ScheduleDelaysWrongFalsely : Prop := scheduleDelaysRow.holds Tryz.pinned (OpenSpec.ofChange scheduleDelaysWrong)

/-- 'narrowslaw51.ScheduleStretched': WHATEVER THE INPUT: true; the input reads as it did. -/
def scheduleStretchedSpec : ChangeSpec := { name := "scheduleStretched", fn := fun _ => fun
  | [d1, d2, d3] => { results := [.lit (.bool true)], args := [d1, d2, d3] }
  | _ => none }
def scheduleStretchedRow : OpenClaim := { program := "ytdnmkehncpfnnaagreat", sum := "e3c8e866e430fc145d60784084b40af929b6be03d6b9e392002faa193fcecb26", func := "narrows/narrowslaw51.ScheduleStretched", spec := "scheduleStretched", unfollowed := true, recurses := true, named := ["math/bits.overflowError"], apart := false }
def ScheduleStretchedSaid : Prop := scheduleStretchedRow.holds Tryz.pinned (OpenSpec.ofChange scheduleStretchedSpec)

/-- ITS FALSE NEIGHBOUR: 'it returns false'. Refute it at one input. -/
def scheduleStretchedWrong : ChangeSpec := { name := "scheduleStretched", fn := fun _ => fun
  | [d1, d2, d3] => { results := [.lit (.bool false)], args := [d1, d2, d3] }
  | _ => none }
def ScheduleStretchedWrongFalsely : Prop := scheduleStretchedRow.holds Tryz.pinned (OpenSpec.ofChange scheduleStretchedWrong)

/-- 'narrowslaw51.ScheduleReads': WHATEVER THE INPUT: true; the input reads as it did. -/
def scheduleReadsSpec : ChangeSpec := { name := "scheduleReads", fn := fun _ => fun
  | [d1, d2] => { results := [.lit (.bool true)], args := [d1, d2] }
  | _ => none }
def scheduleReadsRow : OpenClaim := { program := "ytdnmkehncpfnnaagreat", sum := "e3c8e866e430fc145d60784084b40af929b6be03d6b9e392002faa193fcecb26", func := "narrows/narrowslaw51.ScheduleReads", spec := "scheduleReads", unfollowed := true, recurses := true, named := ["math/bits.overflowError"], apart := false }
def ScheduleReadsSaid : Prop := scheduleReadsRow.holds Tryz.pinned (OpenSpec.ofChange scheduleReadsSpec)

/-- ITS FALSE NEIGHBOUR: 'it returns false'. Refute it at one input. -/
def scheduleReadsWrong : ChangeSpec := { name := "scheduleReads", fn := fun _ => fun
  | [d1, d2] => { results := [.lit (.bool false)], args := [d1, d2] }
  | _ => none }
def ScheduleReadsWrongFalsely : Prop := scheduleReadsRow.holds Tryz.pinned (OpenSpec.ofChange scheduleReadsWrong)

/-- 'narrowslaw51.ScheduleJoined': WHATEVER THE INPUT: true; the input reads as it did. -/
def scheduleJoinedSpec : ChangeSpec := { name := "scheduleJoined", fn := fun _ => fun
  | [d1, d2, d3] => { results := [.lit (.bool true)], args := [d1, d2, d3] }
  | _ => none }
def scheduleJoinedRow : OpenClaim := { program := "ytdnmkehncpfnnaagreat", sum := "e3c8e866e430fc145d60784084b40af929b6be03d6b9e392002faa193fcecb26", func := "narrows/narrowslaw51.ScheduleJoined", spec := "scheduleJoined", unfollowed := true, recurses := true, named := ["math/bits.overflowError"], apart := false }
def ScheduleJoinedSaid : Prop := scheduleJoinedRow.holds Tryz.pinned (OpenSpec.ofChange scheduleJoinedSpec)

/-- ITS FALSE NEIGHBOUR: 'it returns false'. Refute it at one input. -/
def scheduleJoinedWrong : ChangeSpec := { name := "scheduleJoined", fn := fun _ => fun
  | [d1, d2, d3] => { results := [.lit (.bool false)], args := [d1, d2, d3] }
  | _ => none }
def ScheduleJoinedWrongFalsely : Prop := scheduleJoinedRow.holds Tryz.pinned (OpenSpec.ofChange scheduleJoinedWrong)

/- THE SECOND FORM. 'bulk': how many values and letters a reading holds, each counted each time it is reached (what is shared counts as often as it is met; a slice's spare places count too). A statement '..UptoSaid' is the law's where the arguments, and the package variables that the reading takes, are together of bulk at most 1048576: NARROWER than '..Said'. Prove '..Said' where nothing that the law and all that it calls make is longer than what came in: it says more and counts as full. Else prove '..UptoSaid'. A law counts once. -/
mutual
def uptoBulk {H : Type} : DataW H → Nat
  | .lit (.string bytes) => bytes.length + 1
  | .lit _ => 1
  | .nil => 1
  | .ptr d => uptoBulk d + 1
  | .slice elems spare => uptoBulkAll elems + uptoBulkAll spare + 1
  | .agg parts => uptoBulkAll parts + 1
  | .iface _ d => uptoBulk d + 1
  | .map entries => uptoBulkEntries entries + 1
  | .held _ => 1
def uptoBulkAll {H : Type} : List (DataW H) → Nat
  | [] => 0
  | d :: r => uptoBulk d + uptoBulkAll r
def uptoBulkEntries {H : Type} : List (Lit × DataW H) → Nat
  | [] => 0
  | x :: r => uptoBulkEntry x + uptoBulkEntries r
def uptoBulkEntry {H : Type} : Lit × DataW H → Nat
  | (.string bytes, d) => bytes.length + uptoBulk d + 1
  | (_, d) => uptoBulk d + 1
 end
def uptoSmall : (H : Type) → List (DataW H) → Bool := fun _ ds => decide (uptoBulkAll ds ≤ 1048576)
def OpenSpec.upto (s : _root_.Go.ChangeSpec) : _root_.Go.OpenSpec := { _root_.Go.OpenSpec.ofChange s with cond := some uptoSmall }

/-- 'narrowslaw51.ScheduleMake', WHERE WHAT IT READS IS OF BULK AT MOST 1048576: true; the input reads as it did. -/
def scheduleMakeUptoRow : OpenClaim := { program := "ytdnmkehncpfnnaagreat", sum := "e3c8e866e430fc145d60784084b40af929b6be03d6b9e392002faa193fcecb26", func := "narrows/narrowslaw51.ScheduleMake", spec := "scheduleMake", unfollowed := true, recurses := true, named := ["math/bits.overflowError"], apart := false, narrowed := true }
def ScheduleMakeUptoSaid : Prop := scheduleMakeUptoRow.holds Tryz.pinned (OpenSpec.upto scheduleMakeSpec)

/-- 'narrowslaw51.SchedulePlaces', WHERE WHAT IT READS IS OF BULK AT MOST 1048576: true; the input reads as it did. -/
def schedulePlacesUptoRow : OpenClaim := { program := "ytdnmkehncpfnnaagreat", sum := "e3c8e866e430fc145d60784084b40af929b6be03d6b9e392002faa193fcecb26", func := "narrows/narrowslaw51.SchedulePlaces", spec := "schedulePlaces", unfollowed := true, recurses := true, named := ["math/bits.overflowError"], apart := false, narrowed := true }
def SchedulePlacesUptoSaid : Prop := schedulePlacesUptoRow.holds Tryz.pinned (OpenSpec.upto schedulePlacesSpec)

/-- 'narrowslaw51.ScheduleDelays', WHERE WHAT IT READS IS OF BULK AT MOST 1048576: true; the input reads as it did. -/
def scheduleDelaysUptoRow : OpenClaim := { program := "ytdnmkehncpfnnaagreat", sum := "e3c8e866e430fc145d60784084b40af929b6be03d6b9e392002faa193fcecb26", func := "narrows/narrowslaw51.ScheduleDelays", spec := "scheduleDelays", unfollowed := true, recurses := true, named := ["math/bits.overflowError"], apart := false, narrowed := true }
def ScheduleDelaysUptoSaid : Prop := scheduleDelaysUptoRow.holds Tryz.pinned (OpenSpec.upto scheduleDelaysSpec)

/-- 'narrowslaw51.ScheduleStretched', WHERE WHAT IT READS IS OF BULK AT MOST 1048576: true; the input reads as it did. -/
def scheduleStretchedUptoRow : OpenClaim := { program := "ytdnmkehncpfnnaagreat", sum := "e3c8e866e430fc145d60784084b40af929b6be03d6b9e392002faa193fcecb26", func := "narrows/narrowslaw51.ScheduleStretched", spec := "scheduleStretched", unfollowed := true, recurses := true, named := ["math/bits.overflowError"], apart := false, narrowed := true }
def ScheduleStretchedUptoSaid : Prop := scheduleStretchedUptoRow.holds Tryz.pinned (OpenSpec.upto scheduleStretchedSpec)

/-- 'narrowslaw51.ScheduleReads', WHERE WHAT IT READS IS OF BULK AT MOST 1048576: true; the input reads as it did. -/
def scheduleReadsUptoRow : OpenClaim := { program := "ytdnmkehncpfnnaagreat", sum := "e3c8e866e430fc145d60784084b40af929b6be03d6b9e392002faa193fcecb26", func := "narrows/narrowslaw51.ScheduleReads", spec := "scheduleReads", unfollowed := true, recurses := true, named := ["math/bits.overflowError"], apart := false, narrowed := true }
def ScheduleReadsUptoSaid : Prop := scheduleReadsUptoRow.holds Tryz.pinned (OpenSpec.upto scheduleReadsSpec)

/-- 'narrowslaw51.ScheduleJoined', WHERE WHAT IT READS IS OF BULK AT MOST 1048576: true; the input reads as it did. -/
def scheduleJoinedUptoRow : OpenClaim := { program := "ytdnmkehncpfnnaagreat", sum := "e3c8e866e430fc145d60784084b40af929b6be03d6b9e392002faa193fcecb26", func := "narrows/narrowslaw51.ScheduleJoined", spec := "scheduleJoined", unfollowed := true, recurses := true, named := ["math/bits.overflowError"], apart := false, narrowed := true }
def ScheduleJoinedUptoSaid : Prop := scheduleJoinedUptoRow.holds Tryz.pinned (OpenSpec.upto scheduleJoinedSpec)

end Rows
end Go.Proofs.YtdnmkehncpfnnaaGreat
