import Derived.Test.YtdnmkehncpfnnaaZQA
set_option linter.unusedVariables false
set_option linter.unusedSimpArgs false
namespace Go.Proofs.Ytdnmkehncpfnnaa.L
open Go Go.V Go.RowKit Go.Proofs.Ytdnmkehncpfnnaa.Sp Go.Proofs.Ytdnmkehncpfnnaa.F
open Go.Proofs (Try.prog)
noncomputable section
theorem arg_rat (B:Nat→Prop) (w:World) (b:Bool) (n d:ByteArray):(AV.agg [.val (.bool b), .val (.string n), .val (.string d)]).Rel Try.prog NoA B w NoD (.agg #[.bool b, .string n, .string d]):= ⟨_,rfl,_,_,rfl,rfl,_,_,rfl,rfl,_,_,rfl,rfl,rfl⟩
end
end Go.Proofs.Ytdnmkehncpfnnaa.L
