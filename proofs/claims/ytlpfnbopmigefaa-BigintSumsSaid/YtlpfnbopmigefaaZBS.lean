/- BigintSums: the law's tree. -/
import Derived.Test.YtlpfnbopmigefaaZL
import Derived.Test.YtlpfnbopmigefaaZA3
import Derived.Test.YtlpfnbopmigefaaZBZ
import Derived.Test.YtlpfnbopmigefaaZNB
set_option linter.unusedVariables false
set_option linter.unusedSimpArgs false

/- BigintSums: the law's tree. -/
set_option linter.unusedVariables false
namespace Go.Proofs.Ytlpfnbopmigefaa.L
open Go Go.V Go.RowKit Go.Proofs.Ytlpfnbopmigefaa.Sp
open Go.Proofs (Try.prog)
noncomputable section
def CSu (S : Sg) : FuncId → List AV → Option (Bool × AV) :=
  addC 16 (tAdd S) (addC 18 (tSub S) (addC 20 (tMul S) (addC 17 (tAdd S) (addC 19 (tSub S) (addC 21 (tMul S) (addC 15 tAwake noC))))))
def ESu (S : Sg) : Env := ⟨CSu S, fun _ => false, noL⟩
theorem sums_call (S : Sg) (b c : Bool) (s t : ByteArray) : callA Try.prog (ESu S) 10 10 3 [.agg [.val (.bool b), .val (.string s)], .agg [.val (.bool c), .val (.string t)]] =
    (bif decide ((60 : Int) < (↑s.size : Int)) then some (.val (.bool true)) else (bif decide ((60 : Int) < (↑t.size : Int)) then some (.val (.bool true)) else (bif S.ok s && S.ok t then (bif S.ok s && S.ok t then (bif bif false then !(S.ng (S.val b s + S.val c t) == S.ng (S.val b s + S.val c t) && (strEq (S.ms (S.val b s + S.val c t)) (S.ms (S.val b s + S.val c t)) && true)) else S.ng (S.val b s + S.val c t) == S.ng (S.val b s + S.val c t) && (strEq (S.ms (S.val b s + S.val c t)) (S.ms (S.val b s + S.val c t)) && true) then (bif S.ok s && S.ok t then (bif S.ok s && S.ok t then (bif bif false then !(S.ng (S.val b s - S.val c t) == S.ng (S.val b s - S.val c t) && (strEq (S.ms (S.val b s - S.val c t)) (S.ms (S.val b s - S.val c t)) && true)) else S.ng (S.val b s - S.val c t) == S.ng (S.val b s - S.val c t) && (strEq (S.ms (S.val b s - S.val c t)) (S.ms (S.val b s - S.val c t)) && true) then (bif S.ok s && S.ok t then (bif S.ok s && S.ok t then (bif bif false then !(S.ng (S.val b s * S.val c t) == S.ng (S.val b s * S.val c t) && (strEq (S.ms (S.val b s * S.val c t)) (S.ms (S.val b s * S.val c t)) && true)) else S.ng (S.val b s * S.val c t) == S.ng (S.val b s * S.val c t) && (strEq (S.ms (S.val b s * S.val c t)) (S.ms (S.val b s * S.val c t)) && true) then some (.val (.bool true)) else some (.val (.bool false))) else none) else none) else some (.val (.bool false))) else none) else none) else some (.val (.bool false))) else none) else none))) := by kernel_rfl
end
end Go.Proofs.Ytlpfnbopmigefaa.L

/- BigintSums holds. -/
set_option linter.unusedVariables false
set_option linter.unusedSimpArgs false
namespace Go.Proofs.Ytlpfnbopmigefaa.L
open Go Go.V Go.RowKit Go.Proofs.Ytlpfnbopmigefaa.Sp Go.Proofs.Ytlpfnbopmigefaa.F
open Go.Proofs (Try.prog)
noncomputable section
theorem CSu_ok : Meets Try.prog (CSu sg0) := (((((((meets_none _).add eAwake).add eRMul).add eRSub).add eRAdd).add eMul).add eSub).add eAdd
theorem sums_true (b c : Bool) (s t : ByteArray) : callA Try.prog (ESu sg0) 10 10 3 [.agg [.val (.bool b), .val (.string s)], .agg [.val (.bool c), .val (.string t)]] = some (.val (.bool true)) := by
  rw [sums_call]
  by_cases h1 : (60 : Int) < s.size
  · rw [dT h1]; rfl
  by_cases h2 : (60 : Int) < t.size
  · rw [dF h1, dT h2]; rfl
  rw [dF h1, dF h2, ok_small (s := s) (by omega), ok_small (s := t) (by omega), eqI (rfl : sg0.val b s + sg0.val c t = sg0.val b s + sg0.val c t), eqI (rfl : sg0.val b s - sg0.val c t = sg0.val b s - sg0.val c t), eqI (rfl : sg0.val b s * sg0.val c t = sg0.val b s * sg0.val c t)]
  rfl
theorem sums_walk (b : Bool) (s : ByteArray) (c : Bool) (t : ByteArray) (W : World) : Calls Try.prog 3 #[.agg #[.bool b, .string s], .agg #[.bool c, .string t]] W fun e w' => e = .returned (.bool true) ∧ Below W.heap.size W w' :=
  law_walk CSu_ok loops_none (by kernel_rfl) (sums_true b c s t) W ⟨_, _, rfl, arg_int _ _ b s, _, _, rfl, arg_int _ _ c t, rfl⟩
end
end Go.Proofs.Ytlpfnbopmigefaa.L
