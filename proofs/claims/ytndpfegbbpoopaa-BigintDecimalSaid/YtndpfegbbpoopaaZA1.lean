import Derived.Test.YtndpfegbbpoopaaZA0
set_option linter.unusedVariables false
set_option linter.unusedSimpArgs false
namespace Go.Proofs.Ytndpfegbbpoopaa.L
open Go Go.V Go.RowKit
open Go.Proofs (Try.prog)
noncomputable section
theorem aw_root : callA Try.prog E00 20 20 18 [big false [10]] = some (.tup [big false [3], .val (.bool false), .val (.int .i64 0)]) := by kernel_rfl
end
end Go.Proofs.Ytndpfegbbpoopaa.L
