import Derived.Test.YtndpfegbbpoopaaZV2
import Derived.Test.YtndpfegbbpoopaaProg
set_option linter.unusedVariables false
set_option linter.unusedSimpArgs false
namespace Go.Proofs.Ytndpfegbbpoopaa.L
open Go Go.V Go.RowKit
open Go.Proofs (Try.prog)
noncomputable section
def E00 : Env := ⟨noC, fun _ => false, noL⟩
def big (b : Bool) (l : List UInt8) : AV := .agg [.val (.bool b), .val (.string ⟨⟨l⟩⟩)]
theorem aw_mul : callA Try.prog E00 20 20 14 [big false [1, 0, 0, 0, 0], big false [1, 0, 0, 0, 0]] = some (big false [1, 0, 0, 0, 0, 0, 0, 0, 0]) := by kernel_rfl
theorem aw_div1 : callA Try.prog E00 20 20 17 [big true [7], big false [2]] = some (.tup [big true [4], big false [1], .val (.int .i64 0)]) := by kernel_rfl
theorem aw_div2 : callA Try.prog E00 20 20 17 [big false [7], big true [2]] = some (.tup [big true [4], big true [1], .val (.int .i64 0)]) := by kernel_rfl
theorem aw_bits : callA Try.prog E00 20 20 19 [big false [1, 0, 0, 0, 0, 0, 0, 0, 0]] = some (.val (.int .i64 65)) := by kernel_rfl
end
end Go.Proofs.Ytndpfegbbpoopaa.L
