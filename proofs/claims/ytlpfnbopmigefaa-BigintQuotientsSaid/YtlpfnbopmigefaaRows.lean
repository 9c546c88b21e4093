/-
  No cell of these rows narrows 'for every input' (looked for: loops, veiled, ifaces, maps, wideKeys, modest, calm, conditions, laid).
  DERIVED. THE GIVEN ROWS OF THIS SEAT. 11 by the template 'for every input the law returns true; each argument reads behind the call as it read before'; 0 by the template 'total and deterministic' (their statements: YtlpfnbopmigefaaTotals.lean).
  GIVEN WITH THE SEED: the statements are not yours to turn. If you find one false, say at which input.
  Laid BY PROGRAM, IN A SANDBOX (cutbox-rows.mjs): the forced cells as the released guide's own fill.sh prints them over the translation dbae6ed24ecada95… (all of the seat's roots in one cut). By AI agents, Wed Nov 11 2026. No macro, syntax, notation, axiom, sorry.
-/
import Derived.Test.YtlpfnbopmigefaaChecked
import GoSem.Claim
import GoSem.ClaimJoined
import GoSem.ClaimMapViews
import Derived.JoinedTies
import Derived.KernelRfl
namespace Go.Proofs.Ytlpfnbopmigefaa
/- THE CELL 'sum', in the pinned program and in every row, IS THE sha256 OF THE DUMP (.gsa) THAT YtlpfnbopmigefaaProg.lean LOADS. Nothing in Lean hashes anything: it is a label: what it is worth is what the hold of that sum in a sandbox is worth. -/
noncomputable def Try.pinned : Pinned := { name := "ytlpfnbopmigefaa", sum := "dbae6ed24ecada95397263b0d17d6f32c492faa1145b64e8574e22847b739e64", checked := Try.checked }
namespace Rows
def none {H : Type} : Left H := { results := [], args := [] }

/-- 'narrowslaw01.BigintSums': WHATEVER THE INPUT: true; the input reads as it did. -/
def bigintSumsSpec : ChangeSpec := { name := "bigintSums", fn := fun _ => fun
  | [d1, d2] => { results := [.lit (.bool true)], args := [d1, d2] }
  | _ => none }
def bigintSumsRow : OpenClaim := { program := "ytlpfnbopmigefaa", sum := "dbae6ed24ecada95397263b0d17d6f32c492faa1145b64e8574e22847b739e64", func := "narrows/narrowslaw01.BigintSums", spec := "bigintSums", inPlace := ["internal/abi.NoEscape"], unfollowed := true, recurses := true, named := ["math/bits.overflowError"], apart := false }
def BigintSumsSaid : Prop := bigintSumsRow.holds Try.pinned (OpenSpec.ofChange bigintSumsSpec)

/-- ITS FALSE NEIGHBOUR: 'it returns false'. Refute it at one input. -/
def bigintSumsWrong : ChangeSpec := { name := "bigintSums", fn := fun _ => fun
  | [d1, d2] => { results := [.lit (.bool false)], args := [d1, d2] }
  | _ => none }
def BigintSumsWrongFalsely : Prop := bigintSumsRow.holds Try.pinned (OpenSpec.ofChange bigintSumsWrong)

/-- 'narrowslaw01.BigintQuotients': WHATEVER THE INPUT: true; the input reads as it did. -/
def bigintQuotientsSpec : ChangeSpec := { name := "bigintQuotients", fn := fun _ => fun
  | [d1, d2] => { results := [.lit (.bool true)], args := [d1, d2] }
  | _ => none }
def bigintQuotientsRow : OpenClaim := { program := "ytlpfnbopmigefaa", sum := "dbae6ed24ecada95397263b0d17d6f32c492faa1145b64e8574e22847b739e64", func := "narrows/narrowslaw01.BigintQuotients", spec := "bigintQuotients", inPlace := ["internal/abi.NoEscape"], unfollowed := true, recurses := true, named := ["math/bits.overflowError"], apart := false }
def BigintQuotientsSaid : Prop := bigintQuotientsRow.holds Try.pinned (OpenSpec.ofChange bigintQuotientsSpec)

/-- ITS FALSE NEIGHBOUR: 'it returns false'. Refute it at one input. -/
def bigintQuotientsWrong : ChangeSpec := { name := "bigintQuotients", fn := fun _ => fun
  | [d1, d2] => { results := [.lit (.bool false)], args := [d1, d2] }
  | _ => none }
def BigintQuotientsWrongFalsely : Prop := bigintQuotientsRow.holds Try.pinned (OpenSpec.ofChange bigintQuotientsWrong)

/-- 'narrowslaw01.BigintRoots': WHATEVER THE INPUT: true; the input reads as it did. -/
def bigintRootsSpec : ChangeSpec := { name := "bigintRoots", fn := fun _ => fun
  | [d] => { results := [.lit (.bool true)], args := [d] }
  | _ => none }
def bigintRootsRow : OpenClaim := { program := "ytlpfnbopmigefaa", sum := "dbae6ed24ecada95397263b0d17d6f32c492faa1145b64e8574e22847b739e64", func := "narrows/narrowslaw01.BigintRoots", spec := "bigintRoots", inPlace := ["internal/abi.NoEscape"], unfollowed := true, recurses := true, named := ["math/bits.overflowError"], apart := false }
def BigintRootsSaid : Prop := bigintRootsRow.holds Try.pinned (OpenSpec.ofChange bigintRootsSpec)

/-- ITS FALSE NEIGHBOUR: 'it returns false'. Refute it at one input. -/
def bigintRootsWrong : ChangeSpec := { name := "bigintRoots", fn := fun _ => fun
  | [d] => { results := [.lit (.bool false)], args := [d] }
  | _ => none }
def BigintRootsWrongFalsely : Prop := bigintRootsRow.holds Try.pinned (OpenSpec.ofChange bigintRootsWrong)

/-- 'narrowslaw01.BigintDivides': WHATEVER THE INPUT: true; the input reads as it did. -/
def bigintDividesSpec : ChangeSpec := { name := "bigintDivides", fn := fun _ => fun
  | [d1, d2] => { results := [.lit (.bool true)], args := [d1, d2] }
  | _ => none }
def bigintDividesRow : OpenClaim := { program := "ytlpfnbopmigefaa", sum := "dbae6ed24ecada95397263b0d17d6f32c492faa1145b64e8574e22847b739e64", func := "narrows/narrowslaw01.BigintDivides", spec := "bigintDivides", inPlace := ["internal/abi.NoEscape"], unfollowed := true, recurses := true, named := ["math/bits.overflowError"], apart := false }
def BigintDividesSaid : Prop := bigintDividesRow.holds Try.pinned (OpenSpec.ofChange bigintDividesSpec)

/-- ITS FALSE NEIGHBOUR: 'it returns false'. Refute it at one input. -/
def bigintDividesWrong : ChangeSpec := { name := "bigintDivides", fn := fun _ => fun
  | [d1, d2] => { results := [.lit (.bool false)], args := [d1, d2] }
  | _ => none }
def BigintDividesWrongFalsely : Prop := bigintDividesRow.holds Try.pinned (OpenSpec.ofChange bigintDividesWrong)

/-- 'narrowslaw01.BigintOrder': WHATEVER THE INPUT: true; the input reads as it did. -/
def bigintOrderSpec : ChangeSpec := { name := "bigintOrder", fn := fun _ => fun
  | [d1, d2, d3] => { results := [.lit (.bool true)], args := [d1, d2, d3] }
  | _ => none }
def bigintOrderRow : OpenClaim := { program := "ytlpfnbopmigefaa", sum := "dbae6ed24ecada95397263b0d17d6f32c492faa1145b64e8574e22847b739e64", func := "narrows/narrowslaw01.BigintOrder", spec := "bigintOrder", inPlace := ["internal/abi.NoEscape"], unfollowed := true, recurses := true, named := ["math/bits.overflowError"], apart := false }
def BigintOrderSaid : Prop := bigintOrderRow.holds Try.pinned (OpenSpec.ofChange bigintOrderSpec)

/-- ITS FALSE NEIGHBOUR: 'it returns false'. Refute it at one input. -/
def bigintOrderWrong : ChangeSpec := { name := "bigintOrder", fn := fun _ => fun
  | [d1, d2, d3] => { results := [.lit (.bool false)], args := [d1, d2, d3] }
  | _ => none }
def BigintOrderWrongFalsely : Prop := bigintOrderRow.holds Try.pinned (OpenSpec.ofChange bigintOrderWrong)

/-- 'narrowslaw01.BigintRing': WHATEVER THE INPUT: true; the input reads as it did. -/
def bigintRingSpec : ChangeSpec := { name := "bigintRing", fn := fun _ => fun
  | [d1, d2, d3] => { results := [.lit (.bool true)], args := [d1, d2, d3] }
  | _ => none }
def bigintRingRow : OpenClaim := { program := "ytlpfnbopmigefaa", sum := "dbae6ed24ecada95397263b0d17d6f32c492faa1145b64e8574e22847b739e64", func := "narrows/narrowslaw01.BigintRing", spec := "bigintRing", inPlace := ["internal/abi.NoEscape"], unfollowed := true, recurses := true, named := ["math/bits.overflowError"], apart := false }
def BigintRingSaid : Prop := bigintRingRow.holds Try.pinned (OpenSpec.ofChange bigintRingSpec)

/-- ITS FALSE NEIGHBOUR: 'it returns false'. Refute it at one input. -/
def bigintRingWrong : ChangeSpec := { name := "bigintRing", fn := fun _ => fun
  | [d1, d2, d3] => { results := [.lit (.bool false)], args := [d1, d2, d3] }
  | _ => none }
def BigintRingWrongFalsely : Prop := bigintRingRow.holds Try.pinned (OpenSpec.ofChange bigintRingWrong)

/-- 'narrowslaw01.BigintDivisors': WHATEVER THE INPUT: true; the input reads as it did. -/
def bigintDivisorsSpec : ChangeSpec := { name := "bigintDivisors", fn := fun _ => fun
  | [d1, d2, d3] => { results := [.lit (.bool true)], args := [d1, d2, d3] }
  | _ => none }
def bigintDivisorsRow : OpenClaim := { program := "ytlpfnbopmigefaa", sum := "dbae6ed24ecada95397263b0d17d6f32c492faa1145b64e8574e22847b739e64", func := "narrows/narrowslaw01.BigintDivisors", spec := "bigintDivisors", inPlace := ["internal/abi.NoEscape"], unfollowed := true, recurses := true, named := ["math/bits.overflowError"], apart := false }
def BigintDivisorsSaid : Prop := bigintDivisorsRow.holds Try.pinned (OpenSpec.ofChange bigintDivisorsSpec)

/-- ITS FALSE NEIGHBOUR: 'it returns false'. Refute it at one input. -/
def bigintDivisorsWrong : ChangeSpec := { name := "bigintDivisors", fn := fun _ => fun
  | [d1, d2, d3] => { results := [.lit (.bool false)], args := [d1, d2, d3] }
  | _ => none }
def BigintDivisorsWrongFalsely : Prop := bigintDivisorsRow.holds Try.pinned (OpenSpec.ofChange bigintDivisorsWrong)

/-- 'narrowslaw01.BigintMachine': WHATEVER THE INPUT: true; the input reads as it did. -/
def bigintMachineSpec : ChangeSpec := { name := "bigintMachine", fn := fun _ => fun
  | [d1, d2] => { results := [.lit (.bool true)], args := [d1, d2] }
  | _ => none }
def bigintMachineRow : OpenClaim := { program := "ytlpfnbopmigefaa", sum := "dbae6ed24ecada95397263b0d17d6f32c492faa1145b64e8574e22847b739e64", func := "narrows/narrowslaw01.BigintMachine", spec := "bigintMachine", inPlace := ["internal/abi.NoEscape"], unfollowed := true, recurses := true, named := ["math/bits.overflowError"], apart := false }
def BigintMachineSaid : Prop := bigintMachineRow.holds Try.pinned (OpenSpec.ofChange bigintMachineSpec)

/-- ITS FALSE NEIGHBOUR: 'it returns false'. Refute it at one input. -/
def bigintMachineWrong : ChangeSpec := { name := "bigintMachine", fn := fun _ => fun
  | [d1, d2] => { results := [.lit (.bool false)], args := [d1, d2] }
  | _ => none }
def BigintMachineWrongFalsely : Prop := bigintMachineRow.holds Try.pinned (OpenSpec.ofChange bigintMachineWrong)

/-- 'narrowslaw01.BigintBasics': WHATEVER THE INPUT: true; the input reads as it did. -/
def bigintBasicsSpec : ChangeSpec := { name := "bigintBasics", fn := fun _ => fun
  | [d1, d2, d3] => { results := [.lit (.bool true)], args := [d1, d2, d3] }
  | _ => none }
def bigintBasicsRow : OpenClaim := { program := "ytlpfnbopmigefaa", sum := "dbae6ed24ecada95397263b0d17d6f32c492faa1145b64e8574e22847b739e64", func := "narrows/narrowslaw01.BigintBasics", spec := "bigintBasics", inPlace := ["internal/abi.NoEscape"], unfollowed := true, recurses := true, named := ["math/bits.overflowError"], apart := false }
def BigintBasicsSaid : Prop := bigintBasicsRow.holds Try.pinned (OpenSpec.ofChange bigintBasicsSpec)

/-- ITS FALSE NEIGHBOUR: 'it returns false'. Refute it at one input. -/
def bigintBasicsWrong : ChangeSpec := { name := "bigintBasics", fn := fun _ => fun
  | [d1, d2, d3] => { results := [.lit (.bool false)], args := [d1, d2, d3] }
  | _ => none }
def BigintBasicsWrongFalsely : Prop := bigintBasicsRow.holds Try.pinned (OpenSpec.ofChange bigintBasicsWrong)

/-- 'narrowslaw01.BigintTexts': WHATEVER THE INPUT: true; the input reads as it did. -/
def bigintTextsSpec : ChangeSpec := { name := "bigintTexts", fn := fun _ => fun
  | [d1, d2] => { results := [.lit (.bool true)], args := [d1, d2] }
  | _ => none }
def bigintTextsRow : OpenClaim := { program := "ytlpfnbopmigefaa", sum := "dbae6ed24ecada95397263b0d17d6f32c492faa1145b64e8574e22847b739e64", func := "narrows/narrowslaw01.BigintTexts", spec := "bigintTexts", inPlace := ["internal/abi.NoEscape"], unfollowed := true, recurses := true, named := ["math/bits.overflowError"], apart := false }
def BigintTextsSaid : Prop := bigintTextsRow.holds Try.pinned (OpenSpec.ofChange bigintTextsSpec)

/-- ITS FALSE NEIGHBOUR: 'it returns false'. Refute it at one input. -/
def bigintTextsWrong : ChangeSpec := { name := "bigintTexts", fn := fun _ => fun
  | [d1, d2] => { results := [.lit (.bool false)], args := [d1, d2] }
  | _ => none }
def BigintTextsWrongFalsely : Prop := bigintTextsRow.holds Try.pinned (OpenSpec.ofChange bigintTextsWrong)

/-- 'narrowslaw01.BigintDecimal': WHATEVER THE INPUT: true; the input reads as it did. -/
def bigintDecimalSpec : ChangeSpec := { name := "bigintDecimal", fn := fun _ => fun
  | [d1, d2] => { results := [.lit (.bool true)], args := [d1, d2] }
  | _ => none }
def bigintDecimalRow : OpenClaim := { program := "ytlpfnbopmigefaa", sum := "dbae6ed24ecada95397263b0d17d6f32c492faa1145b64e8574e22847b739e64", func := "narrows/narrowslaw01.BigintDecimal", spec := "bigintDecimal", inPlace := ["internal/abi.NoEscape"], unfollowed := true, recurses := true, named := ["math/bits.overflowError"], apart := false }
def BigintDecimalSaid : Prop := bigintDecimalRow.holds Try.pinned (OpenSpec.ofChange bigintDecimalSpec)

/-- ITS FALSE NEIGHBOUR: 'it returns false'. Refute it at one input. -/
def bigintDecimalWrong : ChangeSpec := { name := "bigintDecimal", fn := fun _ => fun
  | [d1, d2] => { results := [.lit (.bool false)], args := [d1, d2] }
  | _ => none }
def BigintDecimalWrongFalsely : Prop := bigintDecimalRow.holds Try.pinned (OpenSpec.ofChange bigintDecimalWrong)

/- THE SECOND FORM. 'bulk': how many values and letters a reading holds, each counted each time it is reached (what is shared counts as often as it is met; a slice's spare places count too). A statement '..UptoSaid' is the law's where the arguments, and the package variables that the reading takes, are together of bulk at most 1048576: NARROWER than '..Said'. Prove '..Said' where nothing that the law and all that it calls make is longer than what came in: it says more and counts as full. Else prove '..UptoSaid'. A law counts once. -/
mutual
def uptoBulk {H : Type} : DataW H → Nat
  | .lit (.string bytes) => bytes.length + 1
  | .lit _ => 1
  | .nil => 1
  | .ptr d => uptoBulk d + 1
  | .slice elems spare => uptoBulkAll elems + uptoBulkAll spare + 1
  | .agg parts => uptoBulkAll parts + 1
  | .iface _ d => uptoBulk d + 1
  | .map entries => uptoBulkEntries entries + 1
  | .held _ => 1
def uptoBulkAll {H : Type} : List (DataW H) → Nat
  | [] => 0
  | d :: r => uptoBulk d + uptoBulkAll r
def uptoBulkEntries {H : Type} : List (Lit × DataW H) → Nat
  | [] => 0
  | x :: r => uptoBulkEntry x + uptoBulkEntries r
def uptoBulkEntry {H : Type} : Lit × DataW H → Nat
  | (.string bytes, d) => bytes.length + uptoBulk d + 1
  | (_, d) => uptoBulk d + 1
 end
def uptoSmall : (H : Type) → List (DataW H) → Bool := fun _ ds => decide (uptoBulkAll ds ≤ 1048576)
def OpenSpec.upto (s : _root_.Go.ChangeSpec) : _root_.Go.OpenSpec := { _root_.Go.OpenSpec.ofChange s with cond := some uptoSmall }

/-- 'narrowslaw01.BigintSums', WHERE WHAT IT READS IS OF BULK AT MOST 1048576: true; the input reads as it did. -/
def bigintSumsUptoRow : OpenClaim := { program := "ytlpfnbopmigefaa", sum := "dbae6ed24ecada95397263b0d17d6f32c492faa1145b64e8574e22847b739e64", func := "narrows/narrowslaw01.BigintSums", spec := "bigintSums", inPlace := ["internal/abi.NoEscape"], unfollowed := true, recurses := true, named := ["math/bits.overflowError"], apart := false, narrowed := true }
def BigintSumsUptoSaid : Prop := bigintSumsUptoRow.holds Try.pinned (OpenSpec.upto bigintSumsSpec)

/-- 'narrowslaw01.BigintQuotients', WHERE WHAT IT READS IS OF BULK AT MOST 1048576: true; the input reads as it did. -/
def bigintQuotientsUptoRow : OpenClaim := { program := "ytlpfnbopmigefaa", sum := "dbae6ed24ecada95397263b0d17d6f32c492faa1145b64e8574e22847b739e64", func := "narrows/narrowslaw01.BigintQuotients", spec := "bigintQuotients", inPlace := ["internal/abi.NoEscape"], unfollowed := true, recurses := true, named := ["math/bits.overflowError"], apart := false, narrowed := true }
def BigintQuotientsUptoSaid : Prop := bigintQuotientsUptoRow.holds Try.pinned (OpenSpec.upto bigintQuotientsSpec)

/-- 'narrowslaw01.BigintRoots', WHERE WHAT IT READS IS OF BULK AT MOST 1048576: true; the input reads as it did. -/
def bigintRootsUptoRow : OpenClaim := { program := "ytlpfnbopmigefaa", sum := "dbae6ed24ecada95397263b0d17d6f32c492faa1145b64e8574e22847b739e64", func := "narrows/narrowslaw01.BigintRoots", spec := "bigintRoots", inPlace := ["internal/abi.NoEscape"], unfollowed := true, recurses := true, named := ["math/bits.overflowError"], apart := false, narrowed := true }
def BigintRootsUptoSaid : Prop := bigintRootsUptoRow.holds Try.pinned (OpenSpec.upto bigintRootsSpec)

/-- 'narrowslaw01.BigintDivides', WHERE WHAT IT READS IS OF BULK AT MOST 1048576: true; the input reads as it did. -/
def bigintDividesUptoRow : OpenClaim := { program := "ytlpfnbopmigefaa", sum := "dbae6ed24ecada95397263b0d17d6f32c492faa1145b64e8574e22847b739e64", func := "narrows/narrowslaw01.BigintDivides", spec := "bigintDivides", inPlace := ["internal/abi.NoEscape"], unfollowed := true, recurses := true, named := ["math/bits.overflowError"], apart := false, narrowed := true }
def BigintDividesUptoSaid : Prop := bigintDividesUptoRow.holds Try.pinned (OpenSpec.upto bigintDividesSpec)

/-- 'narrowslaw01.BigintOrder', WHERE WHAT IT READS IS OF BULK AT MOST 1048576: true; the input reads as it did. -/
def bigintOrderUptoRow : OpenClaim := { program := "ytlpfnbopmigefaa", sum := "dbae6ed24ecada95397263b0d17d6f32c492faa1145b64e8574e22847b739e64", func := "narrows/narrowslaw01.BigintOrder", spec := "bigintOrder", inPlace := ["internal/abi.NoEscape"], unfollowed := true, recurses := true, named := ["math/bits.overflowError"], apart := false, narrowed := true }
def BigintOrderUptoSaid : Prop := bigintOrderUptoRow.holds Try.pinned (OpenSpec.upto bigintOrderSpec)

/-- 'narrowslaw01.BigintRing', WHERE WHAT IT READS IS OF BULK AT MOST 1048576: true; the input reads as it did. -/
def bigintRingUptoRow : OpenClaim := { program := "ytlpfnbopmigefaa", sum := "dbae6ed24ecada95397263b0d17d6f32c492faa1145b64e8574e22847b739e64", func := "narrows/narrowslaw01.BigintRing", spec := "bigintRing", inPlace := ["internal/abi.NoEscape"], unfollowed := true, recurses := true, named := ["math/bits.overflowError"], apart := false, narrowed := true }
def BigintRingUptoSaid : Prop := bigintRingUptoRow.holds Try.pinned (OpenSpec.upto bigintRingSpec)

/-- 'narrowslaw01.BigintDivisors', WHERE WHAT IT READS IS OF BULK AT MOST 1048576: true; the input reads as it did. -/
def bigintDivisorsUptoRow : OpenClaim := { program := "ytlpfnbopmigefaa", sum := "dbae6ed24ecada95397263b0d17d6f32c492faa1145b64e8574e22847b739e64", func := "narrows/narrowslaw01.BigintDivisors", spec := "bigintDivisors", inPlace := ["internal/abi.NoEscape"], unfollowed := true, recurses := true, named := ["math/bits.overflowError"], apart := false, narrowed := true }
def BigintDivisorsUptoSaid : Prop := bigintDivisorsUptoRow.holds Try.pinned (OpenSpec.upto bigintDivisorsSpec)

/-- 'narrowslaw01.BigintMachine', WHERE WHAT IT READS IS OF BULK AT MOST 1048576: true; the input reads as it did. -/
def bigintMachineUptoRow : OpenClaim := { program := "ytlpfnbopmigefaa", sum := "dbae6ed24ecada95397263b0d17d6f32c492faa1145b64e8574e22847b739e64", func := "narrows/narrowslaw01.BigintMachine", spec := "bigintMachine", inPlace := ["internal/abi.NoEscape"], unfollowed := true, recurses := true, named := ["math/bits.overflowError"], apart := false, narrowed := true }
def BigintMachineUptoSaid : Prop := bigintMachineUptoRow.holds Try.pinned (OpenSpec.upto bigintMachineSpec)

/-- 'narrowslaw01.BigintBasics', WHERE WHAT IT READS IS OF BULK AT MOST 1048576: true; the input reads as it did. -/
def bigintBasicsUptoRow : OpenClaim := { program := "ytlpfnbopmigefaa", sum := "dbae6ed24ecada95397263b0d17d6f32c492faa1145b64e8574e22847b739e64", func := "narrows/narrowslaw01.BigintBasics", spec := "bigintBasics", inPlace := ["internal/abi.NoEscape"], unfollowed := true, recurses := true, named := ["math/bits.overflowError"], apart := false, narrowed := true }
def BigintBasicsUptoSaid : Prop := bigintBasicsUptoRow.holds Try.pinned (OpenSpec.upto bigintBasicsSpec)

/-- 'narrowslaw01.BigintTexts', WHERE WHAT IT READS IS OF BULK AT MOST 1048576: true; the input reads as it did. -/
def bigintTextsUptoRow : OpenClaim := { program := "ytlpfnbopmigefaa", sum := "dbae6ed24ecada95397263b0d17d6f32c492faa1145b64e8574e22847b739e64", func := "narrows/narrowslaw01.BigintTexts", spec := "bigintTexts", inPlace := ["internal/abi.NoEscape"], unfollowed := true, recurses := true, named := ["math/bits.overflowError"], apart := false, narrowed := true }
def BigintTextsUptoSaid : Prop := bigintTextsUptoRow.holds Try.pinned (OpenSpec.upto bigintTextsSpec)

/-- 'narrowslaw01.BigintDecimal', WHERE WHAT IT READS IS OF BULK AT MOST 1048576: true; the input reads as it did. -/
def bigintDecimalUptoRow : OpenClaim := { program := "ytlpfnbopmigefaa", sum := "dbae6ed24ecada95397263b0d17d6f32c492faa1145b64e8574e22847b739e64", func := "narrows/narrowslaw01.BigintDecimal", spec := "bigintDecimal", inPlace := ["internal/abi.NoEscape"], unfollowed := true, recurses := true, named := ["math/bits.overflowError"], apart := false, narrowed := true }
def BigintDecimalUptoSaid : Prop := bigintDecimalUptoRow.holds Try.pinned (OpenSpec.upto bigintDecimalSpec)

end Rows
end Go.Proofs.Ytlpfnbopmigefaa
