/- BigintBasics holds. -/
import Derived.Test.YtlpfnbopmigefaaZNC
import Derived.Test.YtlpfnbopmigefaaZA3
import Derived.Test.YtlpfnbopmigefaaZBZ
set_option linter.unusedVariables false
set_option linter.unusedSimpArgs false

/- BigintBasics holds. -/
set_option linter.unusedVariables false
set_option linter.unusedSimpArgs false
namespace Go.Proofs.Ytlpfnbopmigefaa.L
open Go Go.V Go.RowKit Go.Proofs.Ytlpfnbopmigefaa.Sp Go.Proofs.Ytlpfnbopmigefaa.F
open Go.Proofs (Try.prog)
noncomputable section
def xb0 : Xg where
  sv z := if -9223372036854775808 ≤ z ∧ z < 9223372036854775808 then z else 0
  sb z := decide (-9223372036854775808 ≤ z ∧ z < 9223372036854775808)
  dq x y := 0
  dr x y := 0
  de x := 0
  gcd x y := 0
  rt x := 0
  rx x := true
  re x := 0
  pr x := ByteArray.mk #[]
  pv s := 0
  pe s := 0
  ok2 s := true
  okp s := true
def CBa (S : Sg) (X : Xg) : FuncId → List AV → Option (Bool × AV) := addC 29 (tOf S) (addC 32 (tCheck S) (addC 33 (tSmall S X) (addC 30 (tNeg S) (addC 28 (tCompare S) (addC 31 (tBits S)
  (addC 35 (tOf S) (addC 36 (tCheck S) (addC 34 (tSmall S X) (addC 37 (tNeg S) (addC 38 (tCompare S) (addC 39 (tBits S) (addC 15 tAwake noC))))))))))))
theorem CBa_ok : Meets Try.prog (CBa sg0 xb0) := (((((((((((((meets_none _).add eAwake).add eRBits).add eRCompare).add eRNeg).add (eRSmallX xb0 rfl rfl)).add eRCheck).add eROf).add eBits).add eCompare).add eNeg).add (eSmallX xb0 rfl rfl)).add eCheck).add eOf
def EBa (S : Sg) (X : Xg) : Env := ⟨CBa S X, fun _ => false, noL⟩
theorem basics_call (S : Sg) (X : Xg) (z : Int) (b c : Bool) (s t : ByteArray) : callA Try.prog (EBa S X) 10 10 11 [.val (.int .i64 z), .agg [.val (.bool b), .val (.string s)], .agg [.val (.bool c), .val (.string t)]] =
    (bif decide ((60 : Int) < (↑s.size : Int)) then some (.val (.bool true)) else (bif decide ((60 : Int) < (↑t.size : Int)) then some (.val (.bool true)) else (bif S.ok s then (bif S.ok s then (bif inI z then (bif inI z then (bif bif false then !(S.ng z == S.ng z && (strEq (S.ms z) (S.ms z) && true)) else S.ng z == S.ng z && (strEq (S.ms z) (S.ms z) && true) then (bif decide (S.chk b s = S.chk b s) then (bif decide (X.sv (S.val b s) = X.sv (S.val b s)) then (bif bif false then !X.sb (S.val b s) == X.sb (S.val b s) else X.sb (S.val b s) == X.sb (S.val b s) then (bif S.ok s then (bif S.ok s then (bif bif false then !(S.ng (-S.val b s) == S.ng (-S.val b s) && (strEq (S.ms (-S.val b s)) (S.ms (-S.val b s)) && true)) else S.ng (-S.val b s) == S.ng (-S.val b s) && (strEq (S.ms (-S.val b s)) (S.ms (-S.val b s)) && true) then (bif S.ok s && S.ok t then (bif S.ok s && S.ok t then (bif decide (S.cmz (S.val b s) (S.val c t) = S.cmz (S.val b s) (S.val c t)) then (bif S.ok s then (bif S.ok s then (bif decide ((↑(S.bl (S.vs s)) : Int) = (↑(S.bl (S.vs s)) : Int)) then some (.val (.bool true)) else some (.val (.bool false))) else none) else none) else some (.val (.bool false))) else none) else none) else some (.val (.bool false))) else none) else none) else some (.val (.bool false))) else some (.val (.bool false))) else some (.val (.bool false))) else some (.val (.bool false))) else none) else none) else none) else none))) := by kernel_rfl
theorem beq_b (b : Bool) : (b == b) = true := beq_self_eq_true b
theorem basics_true (z : Int) (hz : inI z = true) (b c : Bool) (s t : ByteArray) : callA Try.prog (EBa sg0 xb0) 10 10 11 [.val (.int .i64 z), .agg [.val (.bool b), .val (.string s)], .agg [.val (.bool c), .val (.string t)]] = some (.val (.bool true)) := by
  rw [basics_call]
  by_cases h1 : (60 : Int) < s.size
  · rw [dT h1]; rfl
  by_cases h2 : (60 : Int) < t.size
  · rw [dF h1, dT h2]; rfl
  rw [dF h1, dF h2, ok_small (s := s) (by omega), ok_small (s := t) (by omega), hz, eqI (rfl : z = z), dT (rfl : sg0.chk b s = sg0.chk b s), dT (rfl : xb0.sv (sg0.val b s) = xb0.sv (sg0.val b s)), beq_b (xb0.sb (sg0.val b s)), eqI (rfl : -sg0.val b s = -sg0.val b s), dT (rfl : sg0.cmz (sg0.val b s) (sg0.val c t) = sg0.cmz (sg0.val b s) (sg0.val c t)), dT (rfl : ((sg0.bl (sg0.vs s) : Nat) : Int) = ((sg0.bl (sg0.vs s) : Nat) : Int))]
  rfl
theorem basics_walk (z : Int) (hz : (Lit.int .i64 z).wf = true) (b : Bool) (s : ByteArray) (c : Bool) (t : ByteArray) (W : World) : Calls Try.prog 11 #[.int .i64 z, .agg #[.bool b, .string s], .agg #[.bool c, .string t]] W fun e w' => e = .returned (.bool true) ∧ Below W.heap.size W w' := by
  have k : inI z = true := by
    unfold Lit.wf at hz
    simp only [Bool.and_eq_true, decide_eq_true_eq] at hz
    have h1 : (-9223372036854775808 : Int) ≤ z := hz.1
    have h2 : z ≤ 9223372036854775807 := hz.2
    unfold inI
    rw [dT h1, dT h2]; rfl
  exact law_walk CBa_ok loops_none (by kernel_rfl) (basics_true z k b c s t) W ⟨_, _, rfl, rfl, _, _, rfl, arg_int _ _ b s, _, _, rfl, arg_int _ _ c t, rfl⟩
end
end Go.Proofs.Ytlpfnbopmigefaa.L
