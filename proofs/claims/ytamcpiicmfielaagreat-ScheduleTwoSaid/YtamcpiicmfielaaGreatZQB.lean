import Derived.Test.YtamcpiicmfielaaGreatZQA
set_option linter.unusedVariables false
set_option linter.unusedSimpArgs false
namespace Go.Proofs.YtamcpiicmfielaaGreat.L
open Go Go.V Go.RowKit Go.Proofs.YtamcpiicmfielaaGreat.Sp Go.Proofs.YtamcpiicmfielaaGreat.F
open Go.Proofs (Tryz.prog)
noncomputable section
theorem Ky (B:Nat→Prop) (w:World) (b:Bool) (n d:ByteArray):(AV.agg [.val (.bool b), .val (.string n), .val (.string d)]).Rel Tryz.prog cw B w bo (.agg #[.bool b, .string n, .string d]):= ⟨_,rfl,_,_,rfl,rfl,_,_,rfl,rfl,_,_,rfl,rfl,rfl⟩
theorem OP {n d:ByteArray} (G:n.size≤1073741824) (I:d.size≤1073741824):af.aV n d=true:=by
 show (decide _&&decide _)=true
 rw [decide_eq_true G,decide_eq_true I];rfl
end
end Go.Proofs.YtamcpiicmfielaaGreat.L
