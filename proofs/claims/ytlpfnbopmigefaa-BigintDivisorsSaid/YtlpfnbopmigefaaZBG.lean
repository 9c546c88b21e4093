/- BigintDivisors holds. -/
import Derived.Test.YtlpfnbopmigefaaZBD
set_option linter.unusedVariables false
set_option linter.unusedSimpArgs false

/- BigintDivisors holds. -/
set_option linter.unusedVariables false
set_option linter.unusedSimpArgs false
namespace Go.Proofs.Ytlpfnbopmigefaa.L
open Go Go.V Go.RowKit Go.Proofs.Ytlpfnbopmigefaa.Sp Go.Proofs.Ytlpfnbopmigefaa.F
open Go.Proofs (Try.prog)
noncomputable section
def CGS (S : Sg) (X : Xg) : FuncId → List AV → Option (Bool × AV) := addC 29 (tOf S) (addC 20 (tMul S) (addC 30 (tNeg S) (addC 28 (tCompare S) (addC 22 (tDiv S X) (addC 26 (tGcd S X) (addC 15 tAwake noC))))))
theorem CGS_ok : Meets Try.prog (CGS sg0 xg0) := (((((((meets_none _).add eAwake).add eGcd).add eDiv).add eCompare).add eNeg).add eMul).add eOf
def EGS (S : Sg) (X : Xg) : Env := ⟨CGS S X, fun _ => false, noL⟩
theorem divisors_call (S : Sg) (X : Xg) (b c d : Bool) (s t u : ByteArray) : callA Try.prog (EGS S X) 10 10 9 [.agg [.val (.bool b), .val (.string s)], .agg [.val (.bool c), .val (.string t)], .agg [.val (.bool d), .val (.string u)]] =
    (bif decide ((60 : Int) < (↑s.size : Int)) then some (.val (.bool true)) else (bif decide ((60 : Int) < (↑t.size : Int)) then some (.val (.bool true)) else (bif decide ((60 : Int) < (↑u.size : Int)) then some (.val (.bool true)) else (bif S.ok s && S.ok t then (bif S.ok u && S.ok (ByteArray.mk #[]) then (bif decide (S.cmz (S.val d u) (S.val false (ByteArray.mk #[])) < (0 : Int)) then (bif S.ok u then (bif S.ng (X.gcd (S.val b s) (S.val c t)) then some (.val (.bool false)) else (bif S.ok t && S.ok s then (bif bif true then !(S.ng (X.gcd (S.val c t) (S.val b s)) == S.ng (X.gcd (S.val b s) (S.val c t)) && (strEq (S.ms (X.gcd (S.val c t) (S.val b s))) (S.ms (X.gcd (S.val b s) (S.val c t))) && true)) else S.ng (X.gcd (S.val c t) (S.val b s)) == S.ng (X.gcd (S.val b s) (S.val c t)) && (strEq (S.ms (X.gcd (S.val c t) (S.val b s))) (S.ms (X.gcd (S.val b s) (S.val c t))) && true) then some (.val (.bool false)) else (bif S.ok s && S.ok u then (bif S.ok t && S.ok u then (bif S.ok (S.ms (S.val b s * S.val d u)) && S.ok (S.ms (S.val c t * S.val d u)) then (bif S.ok (S.ms (X.gcd (S.val b s) (S.val c t))) && S.ok (S.ms (-S.val d u)) then (bif bif true then !(S.ng (X.gcd (S.val (S.ng (S.val b s * S.val d u)) (S.ms (S.val b s * S.val d u))) (S.val (S.ng (S.val c t * S.val d u)) (S.ms (S.val c t * S.val d u)))) == S.ng (S.val (S.ng (X.gcd (S.val b s) (S.val c t))) (S.ms (X.gcd (S.val b s) (S.val c t))) * S.val (S.ng (-S.val d u)) (S.ms (-S.val d u))) && (strEq (S.ms (X.gcd (S.val (S.ng (S.val b s * S.val d u)) (S.ms (S.val b s * S.val d u))) (S.val (S.ng (S.val c t * S.val d u)) (S.ms (S.val c t * S.val d u))))) (S.ms (S.val (S.ng (X.gcd (S.val b s) (S.val c t))) (S.ms (X.gcd (S.val b s) (S.val c t))) * S.val (S.ng (-S.val d u)) (S.ms (-S.val d u)))) && true)) else S.ng (X.gcd (S.val (S.ng (S.val b s * S.val d u)) (S.ms (S.val b s * S.val d u))) (S.val (S.ng (S.val c t * S.val d u)) (S.ms (S.val c t * S.val d u)))) == S.ng (S.val (S.ng (X.gcd (S.val b s) (S.val c t))) (S.ms (X.gcd (S.val b s) (S.val c t))) * S.val (S.ng (-S.val d u)) (S.ms (-S.val d u))) && (strEq (S.ms (X.gcd (S.val (S.ng (S.val b s * S.val d u)) (S.ms (S.val b s * S.val d u))) (S.val (S.ng (S.val c t * S.val d u)) (S.ms (S.val c t * S.val d u))))) (S.ms (S.val (S.ng (X.gcd (S.val b s) (S.val c t))) (S.ms (X.gcd (S.val b s) (S.val c t))) * S.val (S.ng (-S.val d u)) (S.ms (-S.val d u)))) && true) then some (.val (.bool false)) else (bif bif false then !(S.ng (X.gcd (S.val b s) (S.val c t)) == false && (strEq (S.ms (X.gcd (S.val b s) (S.val c t))) (ByteArray.mk #[]) && true)) else S.ng (X.gcd (S.val b s) (S.val c t)) == false && (strEq (S.ms (X.gcd (S.val b s) (S.val c t))) (ByteArray.mk #[]) && true) then (bif S.ok s && S.ok (ByteArray.mk #[]) then (bif decide (S.cmz (S.val b s) (S.val false (ByteArray.mk #[])) = (0 : Int)) then (bif S.ok t && S.ok (ByteArray.mk #[]) then (bif decide (S.cmz (S.val c t) (S.val false (ByteArray.mk #[])) = (0 : Int)) then some (.val (.bool true)) else some (.val (.bool false))) else none) else some (.val (.bool false))) else none) else (bif S.ok s && S.ok (S.ms (X.gcd (S.val b s) (S.val c t))) then (bif S.ok t && S.ok (S.ms (X.gcd (S.val b s) (S.val c t))) then (bif decide (X.de (S.val (S.ng (X.gcd (S.val b s) (S.val c t))) (S.ms (X.gcd (S.val b s) (S.val c t)))) = (0 : Int)) then (bif decide (X.de (S.val (S.ng (X.gcd (S.val b s) (S.val c t))) (S.ms (X.gcd (S.val b s) (S.val c t)))) = (0 : Int)) then (bif bif false then !(S.ng (X.dr (S.val b s) (S.val (S.ng (X.gcd (S.val b s) (S.val c t))) (S.ms (X.gcd (S.val b s) (S.val c t))))) == false && (strEq (S.ms (X.dr (S.val b s) (S.val (S.ng (X.gcd (S.val b s) (S.val c t))) (S.ms (X.gcd (S.val b s) (S.val c t)))))) (ByteArray.mk #[]) && true)) else S.ng (X.dr (S.val b s) (S.val (S.ng (X.gcd (S.val b s) (S.val c t))) (S.ms (X.gcd (S.val b s) (S.val c t))))) == false && (strEq (S.ms (X.dr (S.val b s) (S.val (S.ng (X.gcd (S.val b s) (S.val c t))) (S.ms (X.gcd (S.val b s) (S.val c t)))))) (ByteArray.mk #[]) && true) then (bif bif false then !(S.ng (X.dr (S.val c t) (S.val (S.ng (X.gcd (S.val b s) (S.val c t))) (S.ms (X.gcd (S.val b s) (S.val c t))))) == false && (strEq (S.ms (X.dr (S.val c t) (S.val (S.ng (X.gcd (S.val b s) (S.val c t))) (S.ms (X.gcd (S.val b s) (S.val c t)))))) (ByteArray.mk #[]) && true)) else S.ng (X.dr (S.val c t) (S.val (S.ng (X.gcd (S.val b s) (S.val c t))) (S.ms (X.gcd (S.val b s) (S.val c t))))) == false && (strEq (S.ms (X.dr (S.val c t) (S.val (S.ng (X.gcd (S.val b s) (S.val c t))) (S.ms (X.gcd (S.val b s) (S.val c t)))))) (ByteArray.mk #[]) && true) then (bif S.ok (S.ms (X.dq (S.val b s) (S.val (S.ng (X.gcd (S.val b s) (S.val c t))) (S.ms (X.gcd (S.val b s) (S.val c t)))))) && S.ok (S.ms (X.dq (S.val c t) (S.val (S.ng (X.gcd (S.val b s) (S.val c t))) (S.ms (X.gcd (S.val b s) (S.val c t)))))) then (bif bif false then !(S.ng (X.gcd (S.val (S.ng (X.dq (S.val b s) (S.val (S.ng (X.gcd (S.val b s) (S.val c t))) (S.ms (X.gcd (S.val b s) (S.val c t)))))) (S.ms (X.dq (S.val b s) (S.val (S.ng (X.gcd (S.val b s) (S.val c t))) (S.ms (X.gcd (S.val b s) (S.val c t))))))) (S.val (S.ng (X.dq (S.val c t) (S.val (S.ng (X.gcd (S.val b s) (S.val c t))) (S.ms (X.gcd (S.val b s) (S.val c t)))))) (S.ms (X.dq (S.val c t) (S.val (S.ng (X.gcd (S.val b s) (S.val c t))) (S.ms (X.gcd (S.val b s) (S.val c t)))))))) == S.ng (1 : Int) && (strEq (S.ms (X.gcd (S.val (S.ng (X.dq (S.val b s) (S.val (S.ng (X.gcd (S.val b s) (S.val c t))) (S.ms (X.gcd (S.val b s) (S.val c t)))))) (S.ms (X.dq (S.val b s) (S.val (S.ng (X.gcd (S.val b s) (S.val c t))) (S.ms (X.gcd (S.val b s) (S.val c t))))))) (S.val (S.ng (X.dq (S.val c t) (S.val (S.ng (X.gcd (S.val b s) (S.val c t))) (S.ms (X.gcd (S.val b s) (S.val c t)))))) (S.ms (X.dq (S.val c t) (S.val (S.ng (X.gcd (S.val b s) (S.val c t))) (S.ms (X.gcd (S.val b s) (S.val c t))))))))) (S.ms (1 : Int)) && true)) else S.ng (X.gcd (S.val (S.ng (X.dq (S.val b s) (S.val (S.ng (X.gcd (S.val b s) (S.val c t))) (S.ms (X.gcd (S.val b s) (S.val c t)))))) (S.ms (X.dq (S.val b s) (S.val (S.ng (X.gcd (S.val b s) (S.val c t))) (S.ms (X.gcd (S.val b s) (S.val c t))))))) (S.val (S.ng (X.dq (S.val c t) (S.val (S.ng (X.gcd (S.val b s) (S.val c t))) (S.ms (X.gcd (S.val b s) (S.val c t)))))) (S.ms (X.dq (S.val c t) (S.val (S.ng (X.gcd (S.val b s) (S.val c t))) (S.ms (X.gcd (S.val b s) (S.val c t)))))))) == S.ng (1 : Int) && (strEq (S.ms (X.gcd (S.val (S.ng (X.dq (S.val b s) (S.val (S.ng (X.gcd (S.val b s) (S.val c t))) (S.ms (X.gcd (S.val b s) (S.val c t)))))) (S.ms (X.dq (S.val b s) (S.val (S.ng (X.gcd (S.val b s) (S.val c t))) (S.ms (X.gcd (S.val b s) (S.val c t))))))) (S.val (S.ng (X.dq (S.val c t) (S.val (S.ng (X.gcd (S.val b s) (S.val c t))) (S.ms (X.gcd (S.val b s) (S.val c t)))))) (S.ms (X.dq (S.val c t) (S.val (S.ng (X.gcd (S.val b s) (S.val c t))) (S.ms (X.gcd (S.val b s) (S.val c t))))))))) (S.ms (1 : Int)) && true) then some (.val (.bool true)) else some (.val (.bool false))) else none) else some (.val (.bool false))) else some (.val (.bool false))) else some (.val (.bool false))) else some (.val (.bool false))) else none) else none))) else none) else none) else none) else none)) else none)) else none) else (bif S.ng (X.gcd (S.val b s) (S.val c t)) then some (.val (.bool false)) else (bif S.ok t && S.ok s then (bif bif true then !(S.ng (X.gcd (S.val c t) (S.val b s)) == S.ng (X.gcd (S.val b s) (S.val c t)) && (strEq (S.ms (X.gcd (S.val c t) (S.val b s))) (S.ms (X.gcd (S.val b s) (S.val c t))) && true)) else S.ng (X.gcd (S.val c t) (S.val b s)) == S.ng (X.gcd (S.val b s) (S.val c t)) && (strEq (S.ms (X.gcd (S.val c t) (S.val b s))) (S.ms (X.gcd (S.val b s) (S.val c t))) && true) then some (.val (.bool false)) else (bif S.ok s && S.ok u then (bif S.ok t && S.ok u then (bif S.ok (S.ms (S.val b s * S.val d u)) && S.ok (S.ms (S.val c t * S.val d u)) then (bif S.ok (S.ms (X.gcd (S.val b s) (S.val c t))) && S.ok u then (bif bif true then !(S.ng (X.gcd (S.val (S.ng (S.val b s * S.val d u)) (S.ms (S.val b s * S.val d u))) (S.val (S.ng (S.val c t * S.val d u)) (S.ms (S.val c t * S.val d u)))) == S.ng (S.val (S.ng (X.gcd (S.val b s) (S.val c t))) (S.ms (X.gcd (S.val b s) (S.val c t))) * S.val d u) && (strEq (S.ms (X.gcd (S.val (S.ng (S.val b s * S.val d u)) (S.ms (S.val b s * S.val d u))) (S.val (S.ng (S.val c t * S.val d u)) (S.ms (S.val c t * S.val d u))))) (S.ms (S.val (S.ng (X.gcd (S.val b s) (S.val c t))) (S.ms (X.gcd (S.val b s) (S.val c t))) * S.val d u)) && true)) else S.ng (X.gcd (S.val (S.ng (S.val b s * S.val d u)) (S.ms (S.val b s * S.val d u))) (S.val (S.ng (S.val c t * S.val d u)) (S.ms (S.val c t * S.val d u)))) == S.ng (S.val (S.ng (X.gcd (S.val b s) (S.val c t))) (S.ms (X.gcd (S.val b s) (S.val c t))) * S.val d u) && (strEq (S.ms (X.gcd (S.val (S.ng (S.val b s * S.val d u)) (S.ms (S.val b s * S.val d u))) (S.val (S.ng (S.val c t * S.val d u)) (S.ms (S.val c t * S.val d u))))) (S.ms (S.val (S.ng (X.gcd (S.val b s) (S.val c t))) (S.ms (X.gcd (S.val b s) (S.val c t))) * S.val d u)) && true) then some (.val (.bool false)) else (bif bif false then !(S.ng (X.gcd (S.val b s) (S.val c t)) == false && (strEq (S.ms (X.gcd (S.val b s) (S.val c t))) (ByteArray.mk #[]) && true)) else S.ng (X.gcd (S.val b s) (S.val c t)) == false && (strEq (S.ms (X.gcd (S.val b s) (S.val c t))) (ByteArray.mk #[]) && true) then (bif S.ok s && S.ok (ByteArray.mk #[]) then (bif decide (S.cmz (S.val b s) (S.val false (ByteArray.mk #[])) = (0 : Int)) then (bif S.ok t && S.ok (ByteArray.mk #[]) then (bif decide (S.cmz (S.val c t) (S.val false (ByteArray.mk #[])) = (0 : Int)) then some (.val (.bool true)) else some (.val (.bool false))) else none) else some (.val (.bool false))) else none) else (bif S.ok s && S.ok (S.ms (X.gcd (S.val b s) (S.val c t))) then (bif S.ok t && S.ok (S.ms (X.gcd (S.val b s) (S.val c t))) then (bif decide (X.de (S.val (S.ng (X.gcd (S.val b s) (S.val c t))) (S.ms (X.gcd (S.val b s) (S.val c t)))) = (0 : Int)) then (bif decide (X.de (S.val (S.ng (X.gcd (S.val b s) (S.val c t))) (S.ms (X.gcd (S.val b s) (S.val c t)))) = (0 : Int)) then (bif bif false then !(S.ng (X.dr (S.val b s) (S.val (S.ng (X.gcd (S.val b s) (S.val c t))) (S.ms (X.gcd (S.val b s) (S.val c t))))) == false && (strEq (S.ms (X.dr (S.val b s) (S.val (S.ng (X.gcd (S.val b s) (S.val c t))) (S.ms (X.gcd (S.val b s) (S.val c t)))))) (ByteArray.mk #[]) && true)) else S.ng (X.dr (S.val b s) (S.val (S.ng (X.gcd (S.val b s) (S.val c t))) (S.ms (X.gcd (S.val b s) (S.val c t))))) == false && (strEq (S.ms (X.dr (S.val b s) (S.val (S.ng (X.gcd (S.val b s) (S.val c t))) (S.ms (X.gcd (S.val b s) (S.val c t)))))) (ByteArray.mk #[]) && true) then (bif bif false then !(S.ng (X.dr (S.val c t) (S.val (S.ng (X.gcd (S.val b s) (S.val c t))) (S.ms (X.gcd (S.val b s) (S.val c t))))) == false && (strEq (S.ms (X.dr (S.val c t) (S.val (S.ng (X.gcd (S.val b s) (S.val c t))) (S.ms (X.gcd (S.val b s) (S.val c t)))))) (ByteArray.mk #[]) && true)) else S.ng (X.dr (S.val c t) (S.val (S.ng (X.gcd (S.val b s) (S.val c t))) (S.ms (X.gcd (S.val b s) (S.val c t))))) == false && (strEq (S.ms (X.dr (S.val c t) (S.val (S.ng (X.gcd (S.val b s) (S.val c t))) (S.ms (X.gcd (S.val b s) (S.val c t)))))) (ByteArray.mk #[]) && true) then (bif S.ok (S.ms (X.dq (S.val b s) (S.val (S.ng (X.gcd (S.val b s) (S.val c t))) (S.ms (X.gcd (S.val b s) (S.val c t)))))) && S.ok (S.ms (X.dq (S.val c t) (S.val (S.ng (X.gcd (S.val b s) (S.val c t))) (S.ms (X.gcd (S.val b s) (S.val c t)))))) then (bif bif false then !(S.ng (X.gcd (S.val (S.ng (X.dq (S.val b s) (S.val (S.ng (X.gcd (S.val b s) (S.val c t))) (S.ms (X.gcd (S.val b s) (S.val c t)))))) (S.ms (X.dq (S.val b s) (S.val (S.ng (X.gcd (S.val b s) (S.val c t))) (S.ms (X.gcd (S.val b s) (S.val c t))))))) (S.val (S.ng (X.dq (S.val c t) (S.val (S.ng (X.gcd (S.val b s) (S.val c t))) (S.ms (X.gcd (S.val b s) (S.val c t)))))) (S.ms (X.dq (S.val c t) (S.val (S.ng (X.gcd (S.val b s) (S.val c t))) (S.ms (X.gcd (S.val b s) (S.val c t)))))))) == S.ng (1 : Int) && (strEq (S.ms (X.gcd (S.val (S.ng (X.dq (S.val b s) (S.val (S.ng (X.gcd (S.val b s) (S.val c t))) (S.ms (X.gcd (S.val b s) (S.val c t)))))) (S.ms (X.dq (S.val b s) (S.val (S.ng (X.gcd (S.val b s) (S.val c t))) (S.ms (X.gcd (S.val b s) (S.val c t))))))) (S.val (S.ng (X.dq (S.val c t) (S.val (S.ng (X.gcd (S.val b s) (S.val c t))) (S.ms (X.gcd (S.val b s) (S.val c t)))))) (S.ms (X.dq (S.val c t) (S.val (S.ng (X.gcd (S.val b s) (S.val c t))) (S.ms (X.gcd (S.val b s) (S.val c t))))))))) (S.ms (1 : Int)) && true)) else S.ng (X.gcd (S.val (S.ng (X.dq (S.val b s) (S.val (S.ng (X.gcd (S.val b s) (S.val c t))) (S.ms (X.gcd (S.val b s) (S.val c t)))))) (S.ms (X.dq (S.val b s) (S.val (S.ng (X.gcd (S.val b s) (S.val c t))) (S.ms (X.gcd (S.val b s) (S.val c t))))))) (S.val (S.ng (X.dq (S.val c t) (S.val (S.ng (X.gcd (S.val b s) (S.val c t))) (S.ms (X.gcd (S.val b s) (S.val c t)))))) (S.ms (X.dq (S.val c t) (S.val (S.ng (X.gcd (S.val b s) (S.val c t))) (S.ms (X.gcd (S.val b s) (S.val c t)))))))) == S.ng (1 : Int) && (strEq (S.ms (X.gcd (S.val (S.ng (X.dq (S.val b s) (S.val (S.ng (X.gcd (S.val b s) (S.val c t))) (S.ms (X.gcd (S.val b s) (S.val c t)))))) (S.ms (X.dq (S.val b s) (S.val (S.ng (X.gcd (S.val b s) (S.val c t))) (S.ms (X.gcd (S.val b s) (S.val c t))))))) (S.val (S.ng (X.dq (S.val c t) (S.val (S.ng (X.gcd (S.val b s) (S.val c t))) (S.ms (X.gcd (S.val b s) (S.val c t)))))) (S.ms (X.dq (S.val c t) (S.val (S.ng (X.gcd (S.val b s) (S.val c t))) (S.ms (X.gcd (S.val b s) (S.val c t))))))))) (S.ms (1 : Int)) && true) then some (.val (.bool true)) else some (.val (.bool false))) else none) else some (.val (.bool false))) else some (.val (.bool false))) else some (.val (.bool false))) else some (.val (.bool false))) else none) else none))) else none) else none) else none) else none)) else none))) else none) else none)))) := by kernel_rfl
def zg (x y : Int) : Int := (Nat.gcd x.natAbs y.natAbs : Nat)
theorem x_gcd : xg0.gcd = zg := of_eq_true (eq_true rfl)
theorem x_de : xg0.de = ze := of_eq_true (eq_true rfl)
theorem zg_comm (x y : Int) : zg x y = zg y x := by unfold zg; rw [Nat.gcd_comm]
theorem zg_nn (x y : Int) : 0 ≤ zg x y := Int.natCast_nonneg _
theorem ng_nn {x : Int} (h : 0 ≤ x) : sg0.ng x = false := by
  show (enc x).1 = false
  unfold enc
  simp only [decide_eq_false_iff_not]
  omega
theorem eqZ2 (x : Int) : (sg0.ng x == false && (strEq (sg0.ms x) (ByteArray.mk #[]) && true)) = decide (x = 0) := by
  rw [ms_nil]
  by_cases h : x = 0
  · subst h; rfl
  · rw [decide_eq_false h]; cases sg0.ng x <;> rfl
theorem zg_mul (x y z : Int) : zg (x * z) (y * z) = zg x y * (z.natAbs : Int) := by
  unfold zg
  rw [Int.natAbs_mul, Int.natAbs_mul, Nat.gcd_mul_right, Int.natCast_mul]
theorem zg_zero {x y : Int} (h : zg x y = 0) : x = 0 ∧ y = 0 := by
  have h : Nat.gcd x.natAbs y.natAbs = 0 := by unfold zg at h; omega
  exact ⟨by have := Nat.eq_zero_of_gcd_eq_zero_left h; omega, by have := Nat.eq_zero_of_gcd_eq_zero_right h; omega⟩
theorem zg_div {x y : Int} (h : zg x y ≠ 0) : ∃ k l : Int, zq x (zg x y) = k ∧ zr x (zg x y) = 0 ∧ zq y (zg x y) = l ∧ zr y (zg x y) = 0 ∧ zg k l = 1 := by
  have hp : 0 < Nat.gcd x.natAbs y.natAbs := by unfold zg at h; omega
  obtain ⟨k, hk⟩ := Int.ofNat_dvd_left.2 (Nat.gcd_dvd_left x.natAbs y.natAbs)
  obtain ⟨l, hl⟩ := Int.ofNat_dvd_left.2 (Nat.gcd_dvd_right x.natAbs y.natAbs)
  have h1 := floor_of (x := x) (y := zg x y) (q := k) (r := 0) (by rw [Int.zero_add]; exact hk.symm) (Or.inl ⟨by omega, by unfold zg; omega⟩)
  have h2 := floor_of (x := y) (y := zg x y) (q := l) (r := 0) (by rw [Int.zero_add]; exact hl.symm) (Or.inl ⟨by omega, by unfold zg; omega⟩)
  refine ⟨k, l, h1.1, h1.2, h2.1, h2.2, ?_⟩
  have a1 : x.natAbs = Nat.gcd x.natAbs y.natAbs * k.natAbs := by
    have := congrArg Int.natAbs hk
    rw [Int.natAbs_mul, Int.natAbs_natCast] at this
    exact this
  have a2 : y.natAbs = Nat.gcd x.natAbs y.natAbs * l.natAbs := by
    have := congrArg Int.natAbs hl
    rw [Int.natAbs_mul, Int.natAbs_natCast] at this
    exact this
  have a3 : Nat.gcd x.natAbs y.natAbs = Nat.gcd x.natAbs y.natAbs * Nat.gcd k.natAbs l.natAbs := by
    rw [← Nat.gcd_mul_left, ← a1, ← a2]
  have a4 : Nat.gcd k.natAbs l.natAbs = 1 := Nat.eq_of_mul_eq_mul_left hp (by rw [Nat.mul_one]; exact a3.symm)
  unfold zg
  rw [a4]; rfl
theorem bs_zg (x y : Int) : bs (zg x y).natAbs ≤ max (bs x.natAbs) (bs y.natAbs) := by
  unfold zg
  rw [Int.natAbs_natCast]
  rcases Nat.eq_zero_or_pos x.natAbs with e | e
  · rw [e, Nat.gcd_zero_left]; exact Nat.le_max_right _ _
  · exact Nat.le_trans (bs_mono (Nat.gcd_le_left _ e)) (Nat.le_max_left _ _)
theorem divisors_true (b c d : Bool) (s t u : ByteArray) : callA Try.prog (EGS sg0 xg0) 10 10 9 [.agg [.val (.bool b), .val (.string s)], .agg [.val (.bool c), .val (.string t)], .agg [.val (.bool d), .val (.string u)]] = some (.val (.bool true)) := by
  rw [divisors_call]
  by_cases h1 : (60 : Int) < s.size
  · rw [dT h1]; rfl
  by_cases h2 : (60 : Int) < t.size
  · rw [dF h1, dT h2]; rfl
  by_cases h3 : (60 : Int) < u.size
  · rw [dF h1, dF h2, dT h3]; rfl
  rw [dF h1, dF h2, dF h3]
  have os := ok_small (s := s) (by omega)
  have ot := ok_small (s := t) (by omega)
  have ou := ok_small (s := u) (by omega)
  have bx := bs_val b s
  have by_ := bs_val c t
  have bz := bs_val d u
  simp only [val_ms, os, ot, ou, ok_nil, vnil, x_dq, x_dr, x_de, x_gcd, eqZ2]
  generalize sg0.val b s = x at *
  generalize sg0.val c t = y at *
  generalize sg0.val d u = z at *
  have q1 := bs_zmul x z
  have q2 := bs_zmul y z
  have q3 := bs_neg z
  have q4 := bs_zg x y
  have q5 := bs_zq x (zg x y)
  have q6 := bs_zq y (zg x y)
  have hm := zg_mul x y z
  rw [eqI (zg_comm y x), ng_nn (zg_nn x y), ok_ms (z := x * z) (by omega), ok_ms (z := y * z) (by omega), ok_ms (z := zg x y) (by omega), ok_ms (z := -z) (by omega), ok_ms (z := zq x (zg x y)) (by omega), ok_ms (z := zq y (zg x y)) (by omega)]
  have fin : (zg x y = 0 ∧ x = 0 ∧ y = 0) ∨ (zg x y ≠ 0 ∧ ∃ k l : Int, zq x (zg x y) = k ∧ zr x (zg x y) = 0 ∧ zq y (zg x y) = l ∧ zr y (zg x y) = 0 ∧ zg k l = 1) := by
    by_cases h : zg x y = 0
    · exact Or.inl ⟨h, zg_zero h⟩
    · exact Or.inr ⟨h, zg_div h⟩
  have hz : (z < 0 ∧ zg (x * z) (y * z) = zg x y * -z) ∨ (¬ z < 0 ∧ zg (x * z) (y * z) = zg x y * z) := by
    by_cases h : z < 0
    · exact Or.inl ⟨h, by rw [hm, show ((z.natAbs : Nat) : Int) = -z by omega]⟩
    · exact Or.inr ⟨h, by rw [hm, show ((z.natAbs : Nat) : Int) = z by omega]⟩
  rcases hz with ⟨w, hz⟩ | ⟨w, hz⟩
  · rw [dT ((cz_lt z 0).2 w), eqI hz]
    rcases fin with ⟨f1, f2, f3⟩ | ⟨f1, k, l, f2, f3, f4, f5, f6⟩
    · rw [dT f1, dT ((cz_zero x).2 f2), dT ((cz_zero y).2 f3)]
      rfl
    · rw [dF f1, dT (ezn f1), dT f3, dT f5, f2, f4, eqI f6]
      rfl
  · rw [dF (fun h => w ((cz_lt z 0).1 h)), eqI hz]
    rcases fin with ⟨f1, f2, f3⟩ | ⟨f1, k, l, f2, f3, f4, f5, f6⟩
    · rw [dT f1, dT ((cz_zero x).2 f2), dT ((cz_zero y).2 f3)]
      rfl
    · rw [dF f1, dT (ezn f1), dT f3, dT f5, f2, f4, eqI f6]
      rfl
theorem divisors_walk (b : Bool) (s : ByteArray) (c : Bool) (t : ByteArray) (d : Bool) (u : ByteArray) (W : World) : Calls Try.prog 9 #[.agg #[.bool b, .string s], .agg #[.bool c, .string t], .agg #[.bool d, .string u]] W fun e w' => e = .returned (.bool true) ∧ Below W.heap.size W w' :=
  law_walk CGS_ok loops_none (by kernel_rfl) (divisors_true b c d s t u) W ⟨_, _, rfl, arg_int _ _ b s, _, _, rfl, arg_int _ _ c t, _, _, rfl, arg_int _ _ d u, rfl⟩
end
end Go.Proofs.Ytlpfnbopmigefaa.L
