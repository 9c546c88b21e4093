/- BigintRoots holds. -/
import Derived.Test.YtlpfnbopmigefaaZME
import Derived.Test.YtlpfnbopmigefaaZMD
set_option linter.unusedVariables false
set_option linter.unusedSimpArgs false

/- BigintRoots holds. -/
set_option linter.unusedVariables false
set_option linter.unusedSimpArgs false
namespace Go.Proofs.Ytlpfnbopmigefaa.L
open Go Go.V Go.RowKit Go.Proofs.Ytlpfnbopmigefaa.Sp Go.Proofs.Ytlpfnbopmigefaa.F
open Go.Proofs (Try.prog)
noncomputable section
def CRS (S : Sg) (X : Xg) : FuncId → List AV → Option (Bool × AV) := addC 16 (tAdd S) (addC 20 (tMul S) (addC 28 (tCompare S) (addC 29 (tOf S) (addC 24 (tRoot S X) (addC 15 tAwake noC)))))
theorem CRS_ok : Meets Try.prog (CRS sg0 xg0) := ((((((meets_none _).add eAwake).add eRoot).add eOf).add eCompare).add eMul).add eAdd
def ERS (S : Sg) (X : Xg) : Env := ⟨CRS S X, fun _ => false, noL⟩
theorem roots_call (S : Sg) (X : Xg) (b : Bool) (s : ByteArray) : callA Try.prog (ERS S X) 10 10 5 [.agg [.val (.bool b), .val (.string s)]] =
    (bif decide ((60 : Int) < (↑s.size : Int)) then some (.val (.bool true)) else (bif X.ok2 s then (bif !decide (X.re (S.val b s) = (0 : Int)) then (bif decide (X.re (S.val b s) = (2 : Int)) then (bif S.ok s && S.ok (ByteArray.mk #[]) then (bif decide (S.cmz (S.val b s) (S.val false (ByteArray.mk #[])) < (0 : Int)) then (bif bif false then !(S.ng (X.rt (S.val b s)) == false && (strEq (S.ms (X.rt (S.val b s))) (ByteArray.mk #[]) && true)) else S.ng (X.rt (S.val b s)) == false && (strEq (S.ms (X.rt (S.val b s))) (ByteArray.mk #[]) && true) then (bif !X.rx (S.val b s) then some (.val (.bool true)) else some (.val (.bool false))) else some (.val (.bool false))) else some (.val (.bool false))) else none) else some (.val (.bool false))) else (bif S.ok (S.ms (X.rt (S.val b s))) && S.ok (S.ms (1 : Int)) then (bif S.ok (S.ms (X.rt (S.val b s))) && S.ok (S.ms (X.rt (S.val b s))) then (bif S.ok s && S.ok s then (bif X.ok2 (S.ms (S.val b s * S.val b s)) then (bif !S.ng (X.rt (S.val b s)) then (bif S.ok (S.ms (S.val (S.ng (X.rt (S.val b s))) (S.ms (X.rt (S.val b s))) * S.val (S.ng (X.rt (S.val b s))) (S.ms (X.rt (S.val b s))))) && S.ok s then (bif decide (S.cmz (S.val (S.ng (S.val (S.ng (X.rt (S.val b s))) (S.ms (X.rt (S.val b s))) * S.val (S.ng (X.rt (S.val b s))) (S.ms (X.rt (S.val b s))))) (S.ms (S.val (S.ng (X.rt (S.val b s))) (S.ms (X.rt (S.val b s))) * S.val (S.ng (X.rt (S.val b s))) (S.ms (X.rt (S.val b s)))))) (S.val b s) ≤ (0 : Int)) then (bif S.ok (S.ms (S.val (S.ng (X.rt (S.val b s))) (S.ms (X.rt (S.val b s))) + S.val (S.ng (1 : Int)) (S.ms (1 : Int)))) && S.ok (S.ms (S.val (S.ng (X.rt (S.val b s))) (S.ms (X.rt (S.val b s))) + S.val (S.ng (1 : Int)) (S.ms (1 : Int)))) then (bif S.ok s && S.ok (S.ms (S.val (S.ng (S.val (S.ng (X.rt (S.val b s))) (S.ms (X.rt (S.val b s))) + S.val (S.ng (1 : Int)) (S.ms (1 : Int)))) (S.ms (S.val (S.ng (X.rt (S.val b s))) (S.ms (X.rt (S.val b s))) + S.val (S.ng (1 : Int)) (S.ms (1 : Int)))) * S.val (S.ng (S.val (S.ng (X.rt (S.val b s))) (S.ms (X.rt (S.val b s))) + S.val (S.ng (1 : Int)) (S.ms (1 : Int)))) (S.ms (S.val (S.ng (X.rt (S.val b s))) (S.ms (X.rt (S.val b s))) + S.val (S.ng (1 : Int)) (S.ms (1 : Int)))))) then (bif decide (S.cmz (S.val b s) (S.val (S.ng (S.val (S.ng (S.val (S.ng (X.rt (S.val b s))) (S.ms (X.rt (S.val b s))) + S.val (S.ng (1 : Int)) (S.ms (1 : Int)))) (S.ms (S.val (S.ng (X.rt (S.val b s))) (S.ms (X.rt (S.val b s))) + S.val (S.ng (1 : Int)) (S.ms (1 : Int)))) * S.val (S.ng (S.val (S.ng (X.rt (S.val b s))) (S.ms (X.rt (S.val b s))) + S.val (S.ng (1 : Int)) (S.ms (1 : Int)))) (S.ms (S.val (S.ng (X.rt (S.val b s))) (S.ms (X.rt (S.val b s))) + S.val (S.ng (1 : Int)) (S.ms (1 : Int)))))) (S.ms (S.val (S.ng (S.val (S.ng (X.rt (S.val b s))) (S.ms (X.rt (S.val b s))) + S.val (S.ng (1 : Int)) (S.ms (1 : Int)))) (S.ms (S.val (S.ng (X.rt (S.val b s))) (S.ms (X.rt (S.val b s))) + S.val (S.ng (1 : Int)) (S.ms (1 : Int)))) * S.val (S.ng (S.val (S.ng (X.rt (S.val b s))) (S.ms (X.rt (S.val b s))) + S.val (S.ng (1 : Int)) (S.ms (1 : Int)))) (S.ms (S.val (S.ng (X.rt (S.val b s))) (S.ms (X.rt (S.val b s))) + S.val (S.ng (1 : Int)) (S.ms (1 : Int))))))) < (0 : Int)) then (bif S.ok (S.ms (S.val (S.ng (X.rt (S.val b s))) (S.ms (X.rt (S.val b s))) * S.val (S.ng (X.rt (S.val b s))) (S.ms (X.rt (S.val b s))))) && S.ok s then (bif bif false then !X.rx (S.val b s) == decide (S.cmz (S.val (S.ng (S.val (S.ng (X.rt (S.val b s))) (S.ms (X.rt (S.val b s))) * S.val (S.ng (X.rt (S.val b s))) (S.ms (X.rt (S.val b s))))) (S.ms (S.val (S.ng (X.rt (S.val b s))) (S.ms (X.rt (S.val b s))) * S.val (S.ng (X.rt (S.val b s))) (S.ms (X.rt (S.val b s)))))) (S.val b s) = (0 : Int)) else X.rx (S.val b s) == decide (S.cmz (S.val (S.ng (S.val (S.ng (X.rt (S.val b s))) (S.ms (X.rt (S.val b s))) * S.val (S.ng (X.rt (S.val b s))) (S.ms (X.rt (S.val b s))))) (S.ms (S.val (S.ng (X.rt (S.val b s))) (S.ms (X.rt (S.val b s))) * S.val (S.ng (X.rt (S.val b s))) (S.ms (X.rt (S.val b s)))))) (S.val b s) = (0 : Int)) then (bif decide (X.re (S.val (S.ng (S.val b s * S.val b s)) (S.ms (S.val b s * S.val b s))) = (0 : Int)) then (bif X.rx (S.val (S.ng (S.val b s * S.val b s)) (S.ms (S.val b s * S.val b s))) then (bif S.ok (S.ms (X.rt (S.val (S.ng (S.val b s * S.val b s)) (S.ms (S.val b s * S.val b s))))) && S.ok s then (bif decide (S.cmz (S.val (S.ng (X.rt (S.val (S.ng (S.val b s * S.val b s)) (S.ms (S.val b s * S.val b s))))) (S.ms (X.rt (S.val (S.ng (S.val b s * S.val b s)) (S.ms (S.val b s * S.val b s)))))) (S.val b s) = (0 : Int)) then some (.val (.bool true)) else some (.val (.bool false))) else none) else some (.val (.bool false))) else some (.val (.bool false))) else some (.val (.bool false))) else none) else some (.val (.bool false))) else none) else none) else some (.val (.bool false))) else none) else some (.val (.bool false))) else none) else none) else none) else none)) else none)) := by kernel_rfl
theorem dec_beq {p q : Prop} [Decidable p] [Decidable q] (h : p ↔ q) : (decide p == decide q) = true := beq_dec h
theorem ok2_ms {z : Int} (h : bs z.natAbs ≤ 68719476736) : xg0.ok2 (sg0.ms z) = true := decide_eq_true (by rw [size_ms]; exact h)
theorem root_sq (n : Nat) : rootN (n * n) = n := root_uniq (rootN_is _).1 (rootN_is _).2 (Nat.le_refl _) (Nat.mul_lt_mul'' (by omega) (by omega))
theorem roots_true (b : Bool) (s : ByteArray) : callA Try.prog (ERS sg0 xg0) 10 10 5 [.agg [.val (.bool b), .val (.string s)]] = some (.val (.bool true)) := by
  rw [roots_call]
  by_cases h1 : (60 : Int) < s.size
  · rw [dT h1]; rfl
  rw [dF h1]
  have os := ok_small (s := s) (by omega)
  have os2 : xg0.ok2 s = true := decide_eq_true (by omega)
  have bx := bs_val b s
  simp only [val_ms, os, os2, ok_nil, vnil]
  generalize sg0.val b s = x at *
  by_cases hx : x < 0
  · rw [dF (show ¬ xg0.re x = 0 by rw [x_re2 hx]; decide), dT (x_re2 hx), dT ((cz_lt x 0).2 hx), x_rt2 hx, x_rx2 hx, eqZ rfl]
    rfl
  · have hxx : ¬ x * x < 0 := by
      have := Int.mul_nonneg (show 0 ≤ x by omega) (show 0 ≤ x by omega)
      omega
    obtain ⟨n, rfl⟩ := Int.eq_ofNat_of_zero_le (show 0 ≤ x by omega)
    have e1 := x_rt hx
    have e2 := x_rx hx
    have e3 := x_rt hxx
    have e4 := x_rx hxx
    have hna : ((n : Int) * (n : Int)).natAbs = n * n := by rw [← Int.natCast_mul]; rfl
    rw [hna, root_sq] at e3 e4
    rw [Int.natAbs_natCast] at e1 e2 bx
    have hr := rootN_is n
    have hb1 := bs_mono (root_le n)
    have hb2 := bs_mul n n
    have hb3 := bs_mono hr.1
    have hb4 := bs_add (rootN n) 1
    have hb5 := bs_mul (rootN n + 1) (rootN n + 1)
    have hb6 : bs 1 ≤ 1 := bs_le (by decide)
    have c1 : (rootN n : Int) * (rootN n : Int) ≤ (n : Int) := by rw [← Int.natCast_mul]; exact Int.ofNat_le.2 hr.1
    have c2 : (n : Int) < ((rootN n : Int) + 1) * ((rootN n : Int) + 1) := by
      have := Int.ofNat_lt.2 hr.2
      rw [Int.natCast_mul, Int.natCast_add] at this
      exact this
    have c3 : ((rootN n : Int) * (rootN n : Int) = (n : Int)) ↔ rootN n * rootN n = n := by rw [← Int.natCast_mul]; exact Int.ofNat_inj
    rw [dT (x_re hx), dT (x_re hxx), e1, e2, e3, e4, ng_nn (Int.natCast_nonneg (rootN n)),
      ok_ms (z := (rootN n : Int)) (by rw [Int.natAbs_natCast]; omega), ok_ms (z := 1) (by rw [show (1 : Int).natAbs = 1 from rfl]; omega),
      ok2_ms (z := (n : Int) * (n : Int)) (by rw [hna]; omega),
      ok_ms (z := (rootN n : Int) * (rootN n : Int)) (by rw [← Int.natCast_mul, Int.natAbs_natCast]; omega),
      ok_ms (z := (rootN n : Int) + 1) (by rw [show ((rootN n : Int) + 1).natAbs = rootN n + 1 by omega]; omega),
      ok_ms (z := ((rootN n : Int) + 1) * ((rootN n : Int) + 1)) (by rw [Int.natAbs_mul, show ((rootN n : Int) + 1).natAbs = rootN n + 1 by omega]; omega),
      ok_ms (z := (n : Int)) (by rw [Int.natAbs_natCast]; omega),
      dT ((cz_le _ _).2 c1), dT ((cz_lt _ _).2 c2), dec_beq (show rootN n * rootN n = n ↔ sg0.cmz ((rootN n : Int) * (rootN n : Int)) (n : Int) = 0 from ⟨fun h => cmz_self (c3.2 h), fun h => c3.1 (by have h1 := (cz_le _ _).1 (Int.le_of_eq h); have h2 := (cz_ge _ _).1 (Int.le_of_eq h.symm); omega)⟩),
      dT (show n * n = n * n from rfl), dT (cmz_self (rfl : (n : Int) = n))]
    rfl
theorem roots_walk (b : Bool) (s : ByteArray) (W : World) : Calls Try.prog 5 #[.agg #[.bool b, .string s]] W fun e w' => e = .returned (.bool true) ∧ Below W.heap.size W w' :=
  law_walk CRS_ok loops_none (by kernel_rfl) (roots_true b s) W ⟨_, _, rfl, arg_int _ _ b s, rfl⟩
end
end Go.Proofs.Ytlpfnbopmigefaa.L
