/- RationalCanonical, RationalSimple: the laws' trees. -/
import Derived.Test.YtkmblomkocfldaaZQB
set_option linter.unusedVariables false
set_option linter.unusedSimpArgs false

/- RationalCanonical, RationalSimple: the laws' trees. -/
set_option linter.unusedVariables false
set_option linter.unusedSimpArgs false
namespace Go.Proofs.Ytkmblomkocfldaa.L
open Go Go.V Go.RowKit Go.Proofs.Ytkmblomkocfldaa.Sp Go.Proofs.Ytkmblomkocfldaa.F
open Go.Proofs (Try.prog)
noncomputable section
def CQC (S : Sg) (X : Xg) (Z : Qg) : FuncId → TF := addC 24 (tQQuo Z) (addC 21 (tQNeg Z) (addC 18 (tQAdd Z) (addC 23 (tQSub Z) (addC 22 (tQMul Z) (addC 35 (tQCheck Z) (addC 19 (tQOf Z) (addC 15 (tQParts S Z) (addC 31 (tQNew S X Z) (addC 17 (tQCompare Z) (addC 27 (tCompare S) (addC 37 (tGcd S X) (addC 28 (tOf S) (addC 11 tAwakeQ noC)))))))))))))
theorem CQC_ok : Meets Try.prog (CQC sg0 xg0 sq0) := ((((((((((((((meets_none _).add eAwakeQ).add eOf).add eGcd).add eCompare).add eQCompare).add eQNew).add eQParts).add eQOf).add eQCheck).add eQMul).add eQSub).add eQAdd).add eQNeg).add eQQuo
theorem canon_tree (S : Sg) (X : Xg) (Z : Qg) (b c : Bool) (n d m e : ByteArray) : letI q_5 := (Z.fr (0 : Int) (1 : Int)); letI q_1 := (Z.qv b n d + Z.qv (Z.qn q_5) (Z.qs q_5) (Z.qd q_5)); letI q_2 := (Z.qv c m e + Z.qv (Z.qn q_5) (Z.qs q_5) (Z.qd q_5)); letI q_7 := (S.val (S.ng (Z.nu (Z.qv b n d))) (S.ms (Z.nu (Z.qv b n d)))); letI q_4 := (S.val (S.ng (Z.de (Z.qv b n d))) (S.ms (Z.de (Z.qv b n d)))); letI q_3 := (Z.fr q_7 q_4); letI q_6 := (strEq (Z.qs q_1) (Z.qs q_2) && (strEq (Z.qd q_1) (Z.qd q_2) && true)); letI q_8 := (strEq n (Z.qs q_1) && (strEq d (Z.qd q_1) && true)); letI q_9 := (Z.qv b n d + Z.qv c m e); letI q_10 := (Z.qv b n d - Z.qv c m e); letI q_11 := (Z.qv b n d * Z.qv c m e); letI q_12 := (Z.qv b n d / Z.qv c m e); 
    (callA Try.prog ⟨CQC S X Z, fun _ => false, noL⟩ 10 10 8 [.agg [.val (.bool b), .val (.string n), .val (.string d)], .agg [.val (.bool c), .val (.string m), .val (.string e)]] = (bif decide ((60 : Int) < (↑n.size : Int)) then some (.val (.bool true)) else (bif decide ((60 : Int) < (↑d.size : Int)) then some (.val (.bool true)) else (bif decide ((60 : Int) < (↑m.size : Int)) then some (.val (.bool true)) else (bif decide ((60 : Int) < (↑e.size : Int)) then some (.val (.bool true)) else (bif Z.ok n d && Z.ok m e then (bif Z.ok n d then (bif Z.ok n d && Z.ok m e then (bif Z.ok n d && Z.ok m e then (bif Z.ok n d && Z.ok m e then (bif Z.ok (Z.qs (-Z.qv b n d)) (Z.qd (-Z.qv b n d)) then (bif !decide (Z.ck (Z.qn (-Z.qv b n d)) (Z.qs (-Z.qv b n d)) (Z.qd (-Z.qv b n d)) = (0 : Int)) then some (.val (.bool false)) else (bif Z.ok (Z.qs q_9) (Z.qd q_9) then (bif !decide (Z.ck (Z.qn q_9) (Z.qs q_9) (Z.qd q_9) = (0 : Int)) then some (.val (.bool false)) else (bif Z.ok (Z.qs q_10) (Z.qd q_10) then (bif !decide (Z.ck (Z.qn q_10) (Z.qs q_10) (Z.qd q_10) = (0 : Int)) then some (.val (.bool false)) else (bif Z.ok (Z.qs q_11) (Z.qd q_11) then (bif !decide (Z.ck (Z.qn q_11) (Z.qs q_11) (Z.qd q_11) = (0 : Int)) then some (.val (.bool false)) else (bif Z.ok (Z.qs q_12) (Z.qd q_12) then (bif !decide (Z.ck (Z.qn q_12) (Z.qs q_12) (Z.qd q_12) = (0 : Int)) then some (.val (.bool false)) else (bif Z.ok n d && Z.ok (Z.qs q_5) (Z.qd q_5) then (bif Z.ok m e && Z.ok (Z.qs q_5) (Z.qd q_5) then (bif Z.ok n d then (bif S.ok (S.ms (Z.nu (Z.qv b n d))) && S.ok (S.ms (Z.de (Z.qv b n d))) then (bif Z.ok n d && Z.ok m e then (bif bif false then !(bif false then !(Z.qn q_1 == Z.qn q_2 && q_6) else Z.qn q_1 == Z.qn q_2 && q_6) == decide (Z.cq (Z.qv b n d) (Z.qv c m e) = (0 : Int)) else (bif false then !(Z.qn q_1 == Z.qn q_2 && q_6) else Z.qn q_1 == Z.qn q_2 && q_6) == decide (Z.cq (Z.qv b n d) (Z.qv c m e) = (0 : Int)) then (bif decide (X.de q_4 = (0 : Int)) then (bif bif false then !(Z.qn q_3 == Z.qn q_1 && (strEq (Z.qs q_3) (Z.qs q_1) && (strEq (Z.qd q_3) (Z.qd q_1) && true))) else Z.qn q_3 == Z.qn q_1 && (strEq (Z.qs q_3) (Z.qs q_1) && (strEq (Z.qd q_3) (Z.qd q_1) && true)) then (bif Z.ok n d then (bif bif false then !decide (Z.ck b n d = (0 : Int)) == bif false then !(b == Z.qn q_1 && q_8) else b == Z.qn q_1 && q_8 else decide (Z.ck b n d = (0 : Int)) == bif false then !(b == Z.qn q_1 && q_8) else b == Z.qn q_1 && q_8 then (bif S.ok (S.ms (Z.nu (Z.qv b n d))) && S.ok (S.ms (Z.de (Z.qv b n d))) then (bif S.ok (S.ms (X.gcd q_7 q_4)) && S.ok (S.ms (1 : Int)) then (bif decide (S.cmz (S.val (S.ng (X.gcd q_7 q_4)) (S.ms (X.gcd q_7 q_4))) (S.val (S.ng (1 : Int)) (S.ms (1 : Int))) = (0 : Int)) then (bif S.ok (S.ms (Z.de (Z.qv b n d))) && S.ok (S.ms (0 : Int)) then (bif decide ((0 : Int) < S.cmz q_4 (S.val (S.ng (0 : Int)) (S.ms (0 : Int)))) then some (.val (.bool true)) else some (.val (.bool false))) else none) else some (.val (.bool false))) else none) else none) else some (.val (.bool false))) else none) else some (.val (.bool false))) else some (.val (.bool false))) else some (.val (.bool false))) else none) else none) else none) else none) else none)) else none)) else none)) else none)) else none)) else none) else none) else none) else none) else none) else none)))))) := by kernel_rfl
end
end Go.Proofs.Ytkmblomkocfldaa.L

/- RationalCanonical holds. -/
set_option linter.unusedVariables false
set_option linter.unusedSimpArgs false
namespace Go.Proofs.Ytkmblomkocfldaa.L
open Go Go.V Go.RowKit Go.Proofs.Ytkmblomkocfldaa.Sp Go.Proofs.Ytkmblomkocfldaa.F
open Go.Proofs (Try.prog)
noncomputable section
theorem ck_def (b : Bool) (n d : ByteArray) : sq0.ck b n d = bif (b == sq0.qn (sq0.qv b n d)) && strEq n (sq0.qs (sq0.qv b n d)) && strEq d (sq0.qd (sq0.qv b n d)) then 0 else 1 := rfl
theorem ck_rat (q : Rat) : sq0.ck (sq0.qn q) (sq0.qs q) (sq0.qd q) = 0 := by
  rw [ck_def, qv_rat, beq_self_eq_true, strEq_self, strEq_self]; rfl
theorem ck_eq (b : Bool) (n d : ByteArray) : decide (sq0.ck b n d = 0) = (b == sq0.qn (sq0.qv b n d) && (strEq n (sq0.qs (sq0.qv b n d)) && (strEq d (sq0.qd (sq0.qv b n d)) && true))) := by
  rw [ck_def]
  generalize (b == sq0.qn (sq0.qv b n d)) = u1
  generalize strEq n (sq0.qs (sq0.qv b n d)) = u2
  generalize strEq d (sq0.qd (sq0.qv b n d)) = u3
  cases u1 <;> cases u2 <;> cases u3 <;> rfl
theorem zg_red (q : Rat) : zg q.num q.den = 1 := by
  unfold zg
  rw [Int.natAbs_natCast]
  have h : Nat.gcd q.num.natAbs q.den = 1 := q.reduced
  rw [h]; rfl
theorem canon_true (b c : Bool) (n d m e : ByteArray) : callA Try.prog ⟨CQC sg0 xg0 sq0, fun _ => false, noL⟩ 10 10 8 [.agg [.val (.bool b), .val (.string n), .val (.string d)], .agg [.val (.bool c), .val (.string m), .val (.string e)]] = some (.val (.bool true)) := by
  rw [canon_tree]
  by_cases h1 : (60 : Int) < n.size
  · rw [dT h1]; rfl
  by_cases h2 : (60 : Int) < d.size
  · rw [dF h1, dT h2]; rfl
  by_cases h3 : (60 : Int) < m.size
  · rw [dF h1, dF h2, dT h3]; rfl
  by_cases h4 : (60 : Int) < e.size
  · rw [dF h1, dF h2, dF h3, dT h4]; rfl
  rw [dF h1, dF h2, dF h3, dF h4]
  have o1 := qok_small (n := n) (d := d) (by omega) (by omega)
  have o2 := qok_small (n := m) (d := e) (by omega) (by omega)
  have z1 := szq_val60 b (n := n) (d := d) (by omega) (by omega)
  have z2 := szq_val60 c (n := m) (d := e) (by omega) (by omega)
  have hfr : ∀ q : Rat, sq0.fr q.num (q.den : Int) = q := fun q => Rat.num_divInt_den q
  have hnu : ∀ q, sq0.nu q = q.num := fun q => rfl
  have hde : ∀ q, sq0.de q = (q.den : Int) := fun q => rfl
  have hck := ck_eq b n d
  simp only [qv_rat, val_ms, val_one, cqz, fr01, Rat.add_zero, hnu, hde, x_gcd, x_de, hfr, ck_rat, hck]
  generalize sq0.qv b n d = x at *
  generalize sq0.qv c m e = y at *
  have s1 := szq_add x y
  have s2 := szq_sub x y
  have s3 := szq_mul x y
  have s4 := szq_div x y
  have s5 := szq_neg x
  have s6 := szq_zero
  have c3 : bs x.num.natAbs ≤ szq x := Nat.le_max_left _ _
  have c4 : bs x.den ≤ szq x := Nat.le_max_right _ _
  have hp := x.den_pos
  have hk : decide (cqn x y = 0) = decide (x = y) := decide_eq_decide.2 (cq_zero x y)
  have v0 : sg0.val (sg0.ng 0) (sg0.ms 0) = 0 := val_ms 0
  rw [o1, o2, ok_rat (q := -x) (by omega), ok_rat (q := x + y) (by omega), ok_rat (q := x - y) (by omega), ok_rat (q := x * y) (by omega), ok_rat (q := x / y) (by omega), ok_rat (q := (0 : Rat)) (by omega), ok_ms (z := x.num) (by omega), ok_ms (z := ((x.den : Nat) : Int)) (by rw [Int.natAbs_natCast]; omega), rat_eq_iff x y, hk, eqQ (rfl : x = x), zg_red, dT ((cz_iff 1 1).2 rfl), ok_ms1, ok_ms0, dT (ezn (y := ((x.den : Nat) : Int)) (by omega)), dT ((cz_gt ((x.den : Nat) : Int) 0).2 (by omega))]
  generalize (b == sq0.qn x && (strEq n (sq0.qs x) && (strEq d (sq0.qd x) && true))) = u
  generalize decide (x = y) = v
  cases u <;> cases v <;> rfl
theorem canon_walk (b : Bool) (n d : ByteArray) (c : Bool) (m e : ByteArray) (W : World) : Calls Try.prog 8 #[.agg #[.bool b, .string n, .string d], .agg #[.bool c, .string m, .string e]] W fun e w' => e = .returned (.bool true) ∧ Below W.heap.size W w' :=
  law_walk CQC_ok loops_none (by kernel_rfl) (canon_true b c n d m e) W ⟨_, _, rfl, arg_rat _ _ b n d, _, _, rfl, arg_rat _ _ c m e, rfl⟩
end
end Go.Proofs.Ytkmblomkocfldaa.L
