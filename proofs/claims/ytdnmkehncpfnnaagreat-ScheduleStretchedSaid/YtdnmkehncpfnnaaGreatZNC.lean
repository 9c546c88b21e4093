import Derived.Test.YtdnmkehncpfnnaaGreatZNA
import Derived.Test.YtdnmkehncpfnnaaGreatZMD
set_option linter.unusedVariables false
set_option linter.unusedSimpArgs false
namespace Go.Proofs.YtdnmkehncpfnnaaGreat.L
open Go Go.V Go.RowKit Go.Proofs.YtdnmkehncpfnnaaGreat.Sp Go.Proofs.YtdnmkehncpfnnaaGreat.F Go.Proofs.YtdnmkehncpfnnaaGreatW.PrintWords
open Go.Proofs (Tryz.prog)
noncomputable section
end
end Go.Proofs.YtdnmkehncpfnnaaGreat.L
namespace Go.Proofs.YtdnmkehncpfnnaaGreat.L
open Go Go.V Go.RowKit Go.Proofs.YtdnmkehncpfnnaaGreat.Sp Go.Proofs.YtdnmkehncpfnnaaGreat.F Go.Proofs.YtdnmkehncpfnnaaGreatW.PrintWords
open Go.Proofs (Tryz.prog)
noncomputable section
end
end Go.Proofs.YtdnmkehncpfnnaaGreat.L
namespace Go.Proofs.YtdnmkehncpfnnaaGreat.L
open Go Go.V Go.RowKit Go.Proofs.YtdnmkehncpfnnaaGreat.Sp Go.Proofs.YtdnmkehncpfnnaaGreat.F Go.Proofs.YtdnmkehncpfnnaaGreatW.PrintWords
open Go.Proofs (Tryz.prog)
noncomputable section
end
end Go.Proofs.YtdnmkehncpfnnaaGreat.L
namespace Go.Proofs.YtdnmkehncpfnnaaGreat.L
open Go Go.V Go.RowKit Go.Proofs.YtdnmkehncpfnnaaGreat.Sp Go.Proofs.YtdnmkehncpfnnaaGreat.F
open Go.Proofs (Tryz.prog)
noncomputable section
end
end Go.Proofs.YtdnmkehncpfnnaaGreat.L
