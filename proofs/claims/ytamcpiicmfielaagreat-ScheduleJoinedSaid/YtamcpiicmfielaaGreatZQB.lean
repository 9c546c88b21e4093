import Derived.Test.YtamcpiicmfielaaGreatZQA
set_option linter.unusedVariables false
set_option linter.unusedSimpArgs false
namespace Go.Proofs.YtamcpiicmfielaaGreat.L
open Go Go.V Go.RowKit Go.Proofs.YtamcpiicmfielaaGreat.Sp Go.Proofs.YtamcpiicmfielaaGreat.F
open Go.Proofs (Tryz.prog)
noncomputable section
theorem arg_rat (B:Nat→Prop) (w:World) (b:Bool) (n d:ByteArray):(AV.agg [.val (.bool b), .val (.string n), .val (.string d)]).Rel Tryz.prog NoA B w NoD (.agg #[.bool b, .string n, .string d]):= ⟨_,rfl,_,_,rfl,rfl,_,_,rfl,rfl,_,_,rfl,rfl,rfl⟩
theorem qoks_in {n d:ByteArray} (h1:n.size≤1073741824) (h2:d.size≤1073741824):sq0.oks n d=true:=by
 show (decide _&&decide _)=true
 rw [decide_eq_true h1,decide_eq_true h2];rfl
end
end Go.Proofs.YtamcpiicmfielaaGreat.L
