/- BigintDivides holds. -/
import Derived.Test.YtlpfnbopmigefaaZMD
import Derived.Test.YtlpfnbopmigefaaZTO
set_option linter.unusedVariables false
set_option linter.unusedSimpArgs false

/- BigintDivides holds. -/
set_option linter.unusedVariables false
set_option linter.unusedSimpArgs false
namespace Go.Proofs.Ytlpfnbopmigefaa.L
open Go Go.V Go.RowKit Go.Proofs.Ytlpfnbopmigefaa.Sp Go.Proofs.Ytlpfnbopmigefaa.F
open Go.Proofs (Try.prog)
noncomputable section
def CDS (S : Sg) (X : Xg) : FuncId → List AV → Option (Bool × AV) := addC 16 (tAdd S) (addC 20 (tMul S) (addC 30 (tNeg S) (addC 28 (tCompare S) (addC 22 (tDiv S X) (addC 15 tAwake noC)))))
theorem CDS_ok : Meets Try.prog (CDS sg0 xg0) := ((((((meets_none _).add eAwake).add eDiv).add eCompare).add eNeg).add eMul).add eAdd
def EDS (S : Sg) (X : Xg) : Env := ⟨CDS S X, fun _ => false, noL⟩
theorem divides_call (S : Sg) (X : Xg) (b c : Bool) (s t : ByteArray) : callA Try.prog (EDS S X) 10 10 6 [.agg [.val (.bool b), .val (.string s)], .agg [.val (.bool c), .val (.string t)]] =
    (bif decide ((60 : Int) < (↑s.size : Int)) then some (.val (.bool true)) else (bif decide ((60 : Int) < (↑t.size : Int)) then some (.val (.bool true)) else (bif S.ok s && S.ok t then (bif !decide (X.de (S.val c t) = (0 : Int)) then (bif decide (X.de (S.val c t) = (10 : Int)) then (bif S.ok t && S.ok (ByteArray.mk #[]) then (bif decide (S.cmz (S.val c t) (S.val false (ByteArray.mk #[])) = (0 : Int)) then (bif bif false then !(S.ng (X.dq (S.val b s) (S.val c t)) == false && (strEq (S.ms (X.dq (S.val b s) (S.val c t))) (ByteArray.mk #[]) && true)) else S.ng (X.dq (S.val b s) (S.val c t)) == false && (strEq (S.ms (X.dq (S.val b s) (S.val c t))) (ByteArray.mk #[]) && true) then (bif bif false then !(S.ng (X.dr (S.val b s) (S.val c t)) == false && (strEq (S.ms (X.dr (S.val b s) (S.val c t))) (ByteArray.mk #[]) && true)) else S.ng (X.dr (S.val b s) (S.val c t)) == false && (strEq (S.ms (X.dr (S.val b s) (S.val c t))) (ByteArray.mk #[]) && true) then some (.val (.bool true)) else some (.val (.bool false))) else some (.val (.bool false))) else some (.val (.bool false))) else none) else some (.val (.bool false))) else (bif S.ok t && S.ok (ByteArray.mk #[]) then (bif decide (S.cmz (S.val c t) (S.val false (ByteArray.mk #[])) < (0 : Int)) then (bif S.ok t then (bif S.ok (S.ms (X.dr (S.val b s) (S.val c t))) then (bif S.ok s && S.ok t then (bif !decide (S.cmz (S.val c t) (S.val false (ByteArray.mk #[])) = (0 : Int)) then (bif S.ok (S.ms (-S.val (S.ng (X.dr (S.val b s) (S.val c t))) (S.ms (X.dr (S.val b s) (S.val c t))))) && S.ok (ByteArray.mk #[]) then (bif decide ((0 : Int) ≤ S.cmz (S.val (S.ng (-S.val (S.ng (X.dr (S.val b s) (S.val c t))) (S.ms (X.dr (S.val b s) (S.val c t))))) (S.ms (-S.val (S.ng (X.dr (S.val b s) (S.val c t))) (S.ms (X.dr (S.val b s) (S.val c t)))))) (S.val false (ByteArray.mk #[]))) then (bif S.ok (S.ms (-S.val (S.ng (X.dr (S.val b s) (S.val c t))) (S.ms (X.dr (S.val b s) (S.val c t))))) && S.ok (S.ms (-S.val c t)) then (bif decide (S.cmz (S.val (S.ng (-S.val (S.ng (X.dr (S.val b s) (S.val c t))) (S.ms (X.dr (S.val b s) (S.val c t))))) (S.ms (-S.val (S.ng (X.dr (S.val b s) (S.val c t))) (S.ms (X.dr (S.val b s) (S.val c t)))))) (S.val (S.ng (-S.val c t)) (S.ms (-S.val c t))) < (0 : Int)) then (bif S.ok (S.ms (X.dq (S.val b s) (S.val c t))) && S.ok t then (bif S.ok (S.ms (S.val (S.ng (X.dq (S.val b s) (S.val c t))) (S.ms (X.dq (S.val b s) (S.val c t))) * S.val c t)) && S.ok (S.ms (X.dr (S.val b s) (S.val c t))) then (bif S.ok (S.ms (S.val (S.ng (S.val (S.ng (X.dq (S.val b s) (S.val c t))) (S.ms (X.dq (S.val b s) (S.val c t))) * S.val c t)) (S.ms (S.val (S.ng (X.dq (S.val b s) (S.val c t))) (S.ms (X.dq (S.val b s) (S.val c t))) * S.val c t)) + S.val (S.ng (X.dr (S.val b s) (S.val c t))) (S.ms (X.dr (S.val b s) (S.val c t))))) && S.ok s then (bif decide (S.cmz (S.val (S.ng (S.val (S.ng (S.val (S.ng (X.dq (S.val b s) (S.val c t))) (S.ms (X.dq (S.val b s) (S.val c t))) * S.val c t)) (S.ms (S.val (S.ng (X.dq (S.val b s) (S.val c t))) (S.ms (X.dq (S.val b s) (S.val c t))) * S.val c t)) + S.val (S.ng (X.dr (S.val b s) (S.val c t))) (S.ms (X.dr (S.val b s) (S.val c t))))) (S.ms (S.val (S.ng (S.val (S.ng (X.dq (S.val b s) (S.val c t))) (S.ms (X.dq (S.val b s) (S.val c t))) * S.val c t)) (S.ms (S.val (S.ng (X.dq (S.val b s) (S.val c t))) (S.ms (X.dq (S.val b s) (S.val c t))) * S.val c t)) + S.val (S.ng (X.dr (S.val b s) (S.val c t))) (S.ms (X.dr (S.val b s) (S.val c t)))))) (S.val b s) = (0 : Int)) then some (.val (.bool true)) else some (.val (.bool false))) else none) else none) else none) else some (.val (.bool false))) else none) else some (.val (.bool false))) else none) else some (.val (.bool false))) else none) else none) else none) else (bif S.ok s && S.ok t then (bif !decide (S.cmz (S.val c t) (S.val false (ByteArray.mk #[])) = (0 : Int)) then (bif S.ok (S.ms (X.dr (S.val b s) (S.val c t))) && S.ok (ByteArray.mk #[]) then (bif decide ((0 : Int) ≤ S.cmz (S.val (S.ng (X.dr (S.val b s) (S.val c t))) (S.ms (X.dr (S.val b s) (S.val c t)))) (S.val false (ByteArray.mk #[]))) then (bif S.ok (S.ms (X.dr (S.val b s) (S.val c t))) && S.ok t then (bif decide (S.cmz (S.val (S.ng (X.dr (S.val b s) (S.val c t))) (S.ms (X.dr (S.val b s) (S.val c t)))) (S.val c t) < (0 : Int)) then (bif S.ok (S.ms (X.dq (S.val b s) (S.val c t))) && S.ok t then (bif S.ok (S.ms (S.val (S.ng (X.dq (S.val b s) (S.val c t))) (S.ms (X.dq (S.val b s) (S.val c t))) * S.val c t)) && S.ok (S.ms (X.dr (S.val b s) (S.val c t))) then (bif S.ok (S.ms (S.val (S.ng (S.val (S.ng (X.dq (S.val b s) (S.val c t))) (S.ms (X.dq (S.val b s) (S.val c t))) * S.val c t)) (S.ms (S.val (S.ng (X.dq (S.val b s) (S.val c t))) (S.ms (X.dq (S.val b s) (S.val c t))) * S.val c t)) + S.val (S.ng (X.dr (S.val b s) (S.val c t))) (S.ms (X.dr (S.val b s) (S.val c t))))) && S.ok s then (bif decide (S.cmz (S.val (S.ng (S.val (S.ng (S.val (S.ng (X.dq (S.val b s) (S.val c t))) (S.ms (X.dq (S.val b s) (S.val c t))) * S.val c t)) (S.ms (S.val (S.ng (X.dq (S.val b s) (S.val c t))) (S.ms (X.dq (S.val b s) (S.val c t))) * S.val c t)) + S.val (S.ng (X.dr (S.val b s) (S.val c t))) (S.ms (X.dr (S.val b s) (S.val c t))))) (S.ms (S.val (S.ng (S.val (S.ng (X.dq (S.val b s) (S.val c t))) (S.ms (X.dq (S.val b s) (S.val c t))) * S.val c t)) (S.ms (S.val (S.ng (X.dq (S.val b s) (S.val c t))) (S.ms (X.dq (S.val b s) (S.val c t))) * S.val c t)) + S.val (S.ng (X.dr (S.val b s) (S.val c t))) (S.ms (X.dr (S.val b s) (S.val c t)))))) (S.val b s) = (0 : Int)) then some (.val (.bool true)) else some (.val (.bool false))) else none) else none) else none) else some (.val (.bool false))) else none) else some (.val (.bool false))) else none) else some (.val (.bool false))) else none)) else none)) else none))) := by kernel_rfl
theorem cz_zero (x : Int) : sg0.cmz x 0 = 0 ↔ x = 0 := by
  show cmpZ x 0 = 0 ↔ _
  unfold cmpZ
  split <;> (try split) <;> omega
theorem vnil : sg0.val false (ByteArray.mk #[]) = 0 := of_eq_true (eq_true rfl)
theorem x_dq : xg0.dq = zq := of_eq_true (eq_true rfl)
theorem x_dr : xg0.dr = zr := of_eq_true (eq_true rfl)
theorem divides_true (b c : Bool) (s t : ByteArray) : callA Try.prog (EDS sg0 xg0) 10 10 6 [.agg [.val (.bool b), .val (.string s)], .agg [.val (.bool c), .val (.string t)]] = some (.val (.bool true)) := by
  rw [divides_call]
  by_cases h1 : (60 : Int) < s.size
  · rw [dT h1]; rfl
  by_cases h2 : (60 : Int) < t.size
  · rw [dF h1, dT h2]; rfl
  rw [dF h1, dF h2]
  have os := ok_small (s := s) (by omega)
  have ot := ok_small (s := t) (by omega)
  have bx := bs_val b s
  have by_ := bs_val c t
  by_cases h0 : sg0.val c t = 0
  · have hw : xg0.de (sg0.val c t) = 10 := by rw [h0]; rfl
    have z1 : xg0.dq (sg0.val b s) (sg0.val c t) = 0 := by rw [h0]; show zq (sg0.val b s) 0 = 0; exact if_pos rfl
    have z2 : xg0.dr (sg0.val b s) (sg0.val c t) = 0 := by rw [h0]; show zr (sg0.val b s) 0 = 0; exact if_pos rfl
    rw [dF (show ¬ xg0.de (sg0.val c t) = 0 by omega), dT hw, dT (show sg0.cmz (sg0.val c t) (sg0.val false (ByteArray.mk #[])) = 0 by rw [h0]; rfl), os, ot, ok_nil, eqZ z1, eqZ z2]
    rfl
  · have hw : xg0.de (sg0.val c t) = 0 := ezn h0
    rw [dT hw]
    simp only [val_ms, os, ot, ok_nil, vnil, x_dq, x_dr]
    generalize sg0.val b s = x at *
    generalize sg0.val c t = y at *
    obtain ⟨e, p1, p2⟩ := zqr (x := x) h0
    have q1 := bs_zr x y
    have q2 := bs_zq x y
    have q3 := bs_neg y
    have q4 := bs_neg (zr x y)
    have q5 := bs_zmul (zq x y) y
    have e' : zq x y * y + zr x y = x := by rw [Int.mul_comm, Int.add_comm]; exact e
    rw [dF (fun h => h0 ((cz_zero y).1 h)), ok_ms (z := zr x y) (by omega), ok_ms (z := zq x y) (by omega), ok_ms (z := -zr x y) (by omega), ok_ms (z := -y) (by omega), ok_ms (z := zq x y * y) (by omega), ok_ms (z := zq x y * y + zr x y) (by rw [e']; omega), dT (cmz_self e')]
    by_cases h3 : y < 0
    · have w := p2 h3
      rw [dT ((cz_lt y 0).2 h3), dT ((cz_ge (-zr x y) 0).2 (by omega)), dT ((cz_lt (-zr x y) (-y)).2 (by omega))]
      rfl
    · have w := p1 (by omega)
      rw [dF (fun h => h3 ((cz_lt y 0).1 h)), dT ((cz_ge (zr x y) 0).2 (by omega)), dT ((cz_lt (zr x y) y).2 (by omega))]
      rfl
theorem divides_walk (b : Bool) (s : ByteArray) (c : Bool) (t : ByteArray) (W : World) : Calls Try.prog 6 #[.agg #[.bool b, .string s], .agg #[.bool c, .string t]] W fun e w' => e = .returned (.bool true) ∧ Below W.heap.size W w' :=
  law_walk CDS_ok loops_none (by kernel_rfl) (divides_true b c s t) W ⟨_, _, rfl, arg_int _ _ b s, _, _, rfl, arg_int _ _ c t, rfl⟩
end
end Go.Proofs.Ytlpfnbopmigefaa.L
