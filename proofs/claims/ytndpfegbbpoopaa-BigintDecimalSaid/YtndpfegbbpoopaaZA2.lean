import Derived.Test.YtndpfegbbpoopaaZA0
set_option linter.unusedVariables false
set_option linter.unusedSimpArgs false
namespace Go.Proofs.Ytndpfegbbpoopaa.L
open Go Go.V Go.RowKit
open Go.Proofs (Try.prog)
noncomputable section
theorem aw_print : callA Try.prog E00 60 20 9 [big false [1, 0, 0, 0, 0, 0, 0, 0, 0]] = some (.val (.string ⟨⟨[49, 56, 52, 52, 54, 55, 52, 52, 48, 55, 51, 55, 48, 57, 53, 53, 49, 54, 49, 54]⟩⟩)) := by kernel_rfl
end
end Go.Proofs.Ytndpfegbbpoopaa.L
