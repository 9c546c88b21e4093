/- RationalOrder: the law's tree. -/
import Derived.Test.YtkmblomkocfldaaZQB
set_option linter.unusedVariables false
set_option linter.unusedSimpArgs false

/- RationalOrder: the law's tree. -/
set_option linter.unusedVariables false
set_option linter.unusedSimpArgs false
namespace Go.Proofs.Ytkmblomkocfldaa.L
open Go Go.V Go.RowKit Go.Proofs.Ytkmblomkocfldaa.Sp Go.Proofs.Ytkmblomkocfldaa.F
open Go.Proofs (Try.prog)
noncomputable section
def CQO (Z : Qg) : FuncId → TF := addC 18 (tQAdd Z) (addC 22 (tQMul Z) (addC 23 (tQSub Z) (addC 17 (tQCompare Z) (addC 25 (tQSign Z) (addC 11 tAwakeQ noC)))))
theorem CQO_ok : Meets Try.prog (CQO sq0) := ((((((meets_none _).add eAwakeQ).add eQSign).add eQCompare).add eQSub).add eQMul).add eQAdd
theorem qorder_tree (Z : Qg) (b c g : Bool) (n d m e k l : ByteArray) : letI q_4 := (Z.qv b n d + Z.qv g k l); letI q_5 := (Z.qv c m e + Z.qv g k l); letI q_2 := (Z.qv b n d * Z.qv g k l); letI q_6 := (Z.qv c m e * Z.qv g k l); letI q_1 : Option AV := (bif decide (Z.cq (Z.qv b n d) (Z.qv c m e) < (-1 : Int)) then some (.val (.bool false)) else (bif decide ((1 : Int) < Z.cq (Z.qv b n d) (Z.qv c m e)) then some (.val (.bool false)) else (bif Z.ok k l then (bif Z.ok n d && Z.ok k l then (bif Z.ok m e && Z.ok k l then (bif Z.ok (Z.qs q_4) (Z.qd q_4) && Z.ok (Z.qs q_5) (Z.qd q_5) then (bif decide (Z.cq (Z.qv (Z.qn q_4) (Z.qs q_4) (Z.qd q_4)) (Z.qv (Z.qn q_5) (Z.qs q_5) (Z.qd q_5)) = Z.cq (Z.qv b n d) (Z.qv c m e)) then (bif Z.ok n d && Z.ok k l then (bif Z.ok m e && Z.ok k l then (bif Z.ok (Z.qs q_2) (Z.qd q_2) && Z.ok (Z.qs q_6) (Z.qd q_6) then (bif inR IntKind.i64 (Z.cq (Z.qv b n d) (Z.qv c m e) * Z.sq (Z.qv g k l)) then (bif decide (Z.cq (Z.qv (Z.qn q_2) (Z.qs q_2) (Z.qd q_2)) (Z.qv (Z.qn q_6) (Z.qs q_6) (Z.qd q_6)) = Z.cq (Z.qv b n d) (Z.qv c m e) * Z.sq (Z.qv g k l)) then (bif Z.ok n d && Z.ok k l then (bif Z.ok (Z.qs q_2) (Z.qd q_2) then (bif Z.ok n d then (bif inR IntKind.i64 (Z.sq (Z.qv b n d) * Z.sq (Z.qv g k l)) then (bif decide (Z.sq (Z.qv (Z.qn q_2) (Z.qs q_2) (Z.qd q_2)) = Z.sq (Z.qv b n d) * Z.sq (Z.qv g k l)) then some (.val (.bool true)) else some (.val (.bool false))) else none) else none) else none) else none) else some (.val (.bool false))) else none) else none) else none) else none) else some (.val (.bool false))) else none) else none) else none) else none))); letI q_3 := (Z.qv b n d - Z.qv c m e); 
    (callA Try.prog ⟨CQO Z, fun _ => false, noL⟩ 10 10 5 [.agg [.val (.bool b), .val (.string n), .val (.string d)], .agg [.val (.bool c), .val (.string m), .val (.string e)], .agg [.val (.bool g), .val (.string k), .val (.string l)]] = (bif decide ((60 : Int) < (↑n.size : Int)) then some (.val (.bool true)) else (bif decide ((60 : Int) < (↑d.size : Int)) then some (.val (.bool true)) else (bif decide ((60 : Int) < (↑m.size : Int)) then some (.val (.bool true)) else (bif decide ((60 : Int) < (↑e.size : Int)) then some (.val (.bool true)) else (bif decide ((60 : Int) < (↑k.size : Int)) then some (.val (.bool true)) else (bif decide ((60 : Int) < (↑l.size : Int)) then some (.val (.bool true)) else (bif Z.ok n d && Z.ok m e then (bif Z.ok m e && Z.ok k l then (bif Z.ok n d && Z.ok k l then (bif Z.ok m e && Z.ok n d then (bif !decide (Z.cq (Z.qv b n d) (Z.qv c m e) = IntKind.i64.wrap ((0 : Int) - Z.cq (Z.qv c m e) (Z.qv b n d))) then some (.val (.bool false)) else (bif Z.ok n d && Z.ok m e then (bif Z.ok (Z.qs q_3) (Z.qd q_3) then (bif !decide (Z.cq (Z.qv b n d) (Z.qv c m e) = Z.sq (Z.qv (Z.qn q_3) (Z.qs q_3) (Z.qd q_3))) then some (.val (.bool false)) else (bif decide (Z.cq (Z.qv b n d) (Z.qv c m e) = Z.cq (Z.qv c m e) (Z.qv g k l)) then (bif !decide (Z.cq (Z.qv b n d) (Z.qv c m e) = Z.cq (Z.qv b n d) (Z.qv g k l)) then some (.val (.bool false)) else q_1) else q_1)) else none) else none)) else none) else none) else none) else none)))))))) := by kernel_rfl
def CQL (S : Sg) (X : Xg) (Z : Qg) : FuncId → TF := addC 12 (tQFloor S Z) (addC 13 (tQCeil S Z) (addC 31 (tQNew S X Z) (addC 28 (tOf S) (addC 15 (tQParts S Z) (addC 16 (tSmall S X) (addC 17 (tQCompare Z) (addC 18 (tQAdd Z) (addC 19 (tQOf Z) (addC 21 (tQNeg Z) (addC 20 (tNeg S) (addC 11 tAwakeQ noC)))))))))))
theorem CQL_ok : Meets Try.prog (CQL sg0 xg0 sq0) := ((((((((((((meets_none _).add eAwakeQ).add eNeg).add eQNeg).add eQOf).add eQAdd).add eQCompare).add eSmall).add eQParts).add eOf).add eQNew).add eQCeil).add eQFloor
theorem qfloors_tree (S : Sg) (X : Xg) (Z : Qg) (b : Bool) (n d : ByteArray) : letI q_1 := (Z.fr (S.val (S.ng (Z.fl (Z.qv b n d))) (S.ms (Z.fl (Z.qv b n d)))) (S.val (S.ng (1 : Int)) (S.ms (1 : Int)))); letI q_5 := (Z.fr (1 : Int) (1 : Int)); letI q_2 := (Z.qv (Z.qn q_1) (Z.qs q_1) (Z.qd q_1) + Z.qv (Z.qn q_5) (Z.qs q_5) (Z.qd q_5)); letI q_3 := (Z.fl (Z.qv (Z.qn (-Z.qv b n d)) (Z.qs (-Z.qv b n d)) (Z.qd (-Z.qv b n d)))); letI q_4 := (strEq (S.ms (Z.fl (Z.qv b n d))) (S.ms (Z.cl (Z.qv b n d))) && true); 
    (callA Try.prog ⟨CQL S X Z, fun _ => false, noL⟩ 10 10 3 [.agg [.val (.bool b), .val (.string n), .val (.string d)]] = (bif decide ((60 : Int) < (↑n.size : Int)) then some (.val (.bool true)) else (bif decide ((60 : Int) < (↑d.size : Int)) then some (.val (.bool true)) else (bif Z.ok n d then (bif Z.ok n d then (bif S.ok (S.ms (Z.fl (Z.qv b n d))) && S.ok (S.ms (1 : Int)) then (bif Z.ok n d then (bif S.ok (S.ms (Z.de (Z.qv b n d))) then (bif Z.ok (Z.qs q_1) (Z.qd q_1) && Z.ok n d then (bif decide (Z.cq (Z.qv (Z.qn q_1) (Z.qs q_1) (Z.qd q_1)) (Z.qv b n d) ≤ (0 : Int)) then (bif Z.ok (Z.qs q_1) (Z.qd q_1) && Z.ok (Z.qs q_5) (Z.qd q_5) then (bif Z.ok n d && Z.ok (Z.qs q_2) (Z.qd q_2) then (bif decide (Z.cq (Z.qv b n d) (Z.qv (Z.qn q_2) (Z.qs q_2) (Z.qd q_2)) < (0 : Int)) then (bif Z.ok n d then (bif Z.ok (Z.qs (-Z.qv b n d)) (Z.qd (-Z.qv b n d)) then (bif S.ok (S.ms q_3) then (bif bif false then !(S.ng (Z.cl (Z.qv b n d)) == S.ng (-S.val (S.ng q_3) (S.ms q_3)) && (strEq (S.ms (Z.cl (Z.qv b n d))) (S.ms (-S.val (S.ng q_3) (S.ms q_3))) && true)) else S.ng (Z.cl (Z.qv b n d)) == S.ng (-S.val (S.ng q_3) (S.ms q_3)) && (strEq (S.ms (Z.cl (Z.qv b n d))) (S.ms (-S.val (S.ng q_3) (S.ms q_3))) && true) then (bif bif false then !(bif false then !(S.ng (Z.fl (Z.qv b n d)) == S.ng (Z.cl (Z.qv b n d)) && q_4) else S.ng (Z.fl (Z.qv b n d)) == S.ng (Z.cl (Z.qv b n d)) && q_4) == decide (X.sv (S.val (S.ng (Z.de (Z.qv b n d))) (S.ms (Z.de (Z.qv b n d)))) = (1 : Int)) else (bif false then !(S.ng (Z.fl (Z.qv b n d)) == S.ng (Z.cl (Z.qv b n d)) && q_4) else S.ng (Z.fl (Z.qv b n d)) == S.ng (Z.cl (Z.qv b n d)) && q_4) == decide (X.sv (S.val (S.ng (Z.de (Z.qv b n d))) (S.ms (Z.de (Z.qv b n d)))) = (1 : Int)) then some (.val (.bool true)) else some (.val (.bool false))) else some (.val (.bool false))) else none) else none) else none) else some (.val (.bool false))) else none) else none) else some (.val (.bool false))) else none) else none) else none) else none) else none) else none)))) := by kernel_rfl
end
end Go.Proofs.Ytkmblomkocfldaa.L

/- RationalOrder and RationalFloors hold. -/
set_option linter.unusedVariables false
set_option linter.unusedSimpArgs false
namespace Go.Proofs.Ytkmblomkocfldaa.L
open Go Go.V Go.RowKit Go.Proofs.Ytkmblomkocfldaa.Sp Go.Proofs.Ytkmblomkocfldaa.F
open Go.Proofs (Try.prog)
noncomputable section
theorem qorder_true (b c g : Bool) (n d m e k l : ByteArray) : callA Try.prog ⟨CQO sq0, fun _ => false, noL⟩ 10 10 5 [.agg [.val (.bool b), .val (.string n), .val (.string d)], .agg [.val (.bool c), .val (.string m), .val (.string e)], .agg [.val (.bool g), .val (.string k), .val (.string l)]] = some (.val (.bool true)) := by
  rw [qorder_tree]
  by_cases h1 : (60 : Int) < n.size
  · rw [dT h1]; rfl
  by_cases h2 : (60 : Int) < d.size
  · rw [dF h1, dT h2]; rfl
  by_cases h3 : (60 : Int) < m.size
  · rw [dF h1, dF h2, dT h3]; rfl
  by_cases h4 : (60 : Int) < e.size
  · rw [dF h1, dF h2, dF h3, dT h4]; rfl
  by_cases h5 : (60 : Int) < k.size
  · rw [dF h1, dF h2, dF h3, dF h4, dT h5]; rfl
  by_cases h6 : (60 : Int) < l.size
  · rw [dF h1, dF h2, dF h3, dF h4, dF h5, dT h6]; rfl
  rw [dF h1, dF h2, dF h3, dF h4, dF h5, dF h6]
  have o1 := qok_small (n := n) (d := d) (by omega) (by omega)
  have o2 := qok_small (n := m) (d := e) (by omega) (by omega)
  have o3 := qok_small (n := k) (d := l) (by omega) (by omega)
  have z1 := szq_val60 b (n := n) (d := d) (by omega) (by omega)
  have z2 := szq_val60 c (n := m) (d := e) (by omega) (by omega)
  have z3 := szq_val60 g (n := k) (d := l) (by omega) (by omega)
  simp only [qv_rat, cqz, sqz]
  rw [o1, o2, o3]
  generalize sq0.qv b n d = x at *
  generalize sq0.qv c m e = y at *
  generalize sq0.qv g k l = z at *
  have s1 := szq_add x z
  have s2 := szq_add y z
  have s3 := szq_mul x z
  have s4 := szq_mul y z
  have s5 := szq_sub x y
  have r1 := cq_range x y
  have r2 := cq_range y x
  have r3 := cq_range z 0
  have r4 := cq_range x 0
  have e1 : cqn x y = IntKind.i64.wrap (0 - cqn y x) := by rw [neg_wrap r2]; exact cq_swap x y
  have e2 : cqn x y = cqn (x - y) 0 := cq_sub x y
  have e3 : cqn (x + z) (y + z) = cqn x y := by rw [cq_sub, cq_sub x y]; congr 1; grind
  have e4 : cqn (x * z) (y * z) = cqn x y * cqn z 0 := by rw [cq_sub, cq_sub x y, ← sgn_mul]; congr 1; grind
  have e5 : cqn (x * z) 0 = cqn x 0 * cqn z 0 := sgn_mul x z
  have b1 := cq_range (x * z) (y * z)
  have b2 := cq_range (x * z) 0
  rw [ok_rat (q := x + z) (by omega), ok_rat (q := y + z) (by omega), ok_rat (q := x * z) (by omega), ok_rat (q := y * z) (by omega), ok_rat (q := x - y) (by omega), dT e1, dT e2, dF (show ¬ cqn x y < -1 by omega), dF (show ¬ 1 < cqn x y by omega), dT e3, dT e4, dT e5, i64T (z := cqn x y * cqn z 0) (by omega), i64T (z := cqn x 0 * cqn z 0) (by omega)]
  by_cases h : cqn x y = cqn y z
  · rw [dT h, dT (cq_trans h)]; rfl
  · rw [dF h]; rfl
theorem qorder_walk (b : Bool) (n d : ByteArray) (c : Bool) (m e : ByteArray) (g : Bool) (k l : ByteArray) (W : World) : Calls Try.prog 5 #[.agg #[.bool b, .string n, .string d], .agg #[.bool c, .string m, .string e], .agg #[.bool g, .string k, .string l]] W fun e w' => e = .returned (.bool true) ∧ Below W.heap.size W w' :=
  law_walk CQO_ok loops_none (by kernel_rfl) (qorder_true b c g n d m e k l) W ⟨_, _, rfl, arg_rat _ _ b n d, _, _, rfl, arg_rat _ _ c m e, _, _, rfl, arg_rat _ _ g k l, rfl⟩
theorem sv_one (z : Int) (h : 0 < z) : decide (xg0.sv z = 1) = decide (z = 1) := by
  refine decide_eq_decide.2 ?_
  have e : xg0.sv z = if -9223372036854775808 ≤ z ∧ z < 9223372036854775808 then z else 0 := rfl
  rw [e]
  split <;> omega
theorem qfloors_true (b : Bool) (n d : ByteArray) : callA Try.prog ⟨CQL sg0 xg0 sq0, fun _ => false, noL⟩ 10 10 3 [.agg [.val (.bool b), .val (.string n), .val (.string d)]] = some (.val (.bool true)) := by
  rw [qfloors_tree]
  by_cases h1 : (60 : Int) < n.size
  · rw [dT h1]; rfl
  by_cases h2 : (60 : Int) < d.size
  · rw [dF h1, dT h2]; rfl
  rw [dF h1, dF h2]
  have o1 := qok_small (n := n) (d := d) (by omega) (by omega)
  have z1 := szq_val60 b (n := n) (d := d) (by omega) (by omega)
  have hfr : ∀ c : Int, sq0.fr c 1 = (c : Rat) := fr_one
  have hcl : ∀ q, sq0.cl q = q.ceil := fun q => rfl
  have hfl : ∀ q, sq0.fl q = q.floor := fun q => rfl
  have hde : ∀ q, sq0.de q = (q.den : Int) := fun q => rfl
  have e11 : ((1 : Int) : Rat) = 1 := rfl
  simp only [qv_rat, val_ms, val_one, cqz, hfr, hcl, hfl, hde, int_eq_iff]
  simp only [e11]
  rw [o1]
  generalize sq0.qv b n d = x at *
  have c1 := bs_floor x
  have c2 := szq_int x.floor
  have c3 : bs x.num.natAbs ≤ szq x := Nat.le_max_left _ _
  have c4 : bs x.den ≤ szq x := Nat.le_max_right _ _
  have c5 := szq_neg x
  have c6 := bs_floor (-x)
  have c7 : bs (-x).num.natAbs ≤ szq (-x) := Nat.le_max_left _ _
  have c8 := szq_add (x.floor : Rat) 1
  have c9 := szq_one
  have f1 := Rat.floor_le x
  have f2 := Rat.lt_floor_add_one x
  rw [Rat.intCast_add, e11] at f2
  have f3 : x.ceil = -(-x).floor := Rat.ceil_eq_neg_floor_neg x
  have hp := x.den_pos
  rw [ok_ms (z := x.floor) (by omega), ok_ms1, ok_ms (z := ((x.den : Nat) : Int)) (by rw [Int.natAbs_natCast]; omega), ok_rat (q := (x.floor : Rat)) (by omega), ok_rat (q := (1 : Rat)) (by omega), ok_rat (q := (x.floor : Rat) + 1) (by omega), ok_rat (q := -x) (by omega), ok_ms (z := (-x).floor) (by omega), dT ((cq_le _ _).2 f1), dT ((cq_lt _ _).2 f2), dT f3, sv_one _ (by omega)]
  have key : decide (x.floor = x.ceil) = decide ((x.den : Int) = 1) := decide_eq_decide.2 (by rw [floor_ceil]; omega)
  rw [key]
  cases decide ((x.den : Int) = 1) <;> rfl
theorem qfloors_walk (b : Bool) (n d : ByteArray) (W : World) : Calls Try.prog 3 #[.agg #[.bool b, .string n, .string d]] W fun e w' => e = .returned (.bool true) ∧ Below W.heap.size W w' :=
  law_walk CQL_ok loops_none (by kernel_rfl) (qfloors_true b n d) W ⟨_, _, rfl, arg_rat _ _ b n d, rfl⟩
end
end Go.Proofs.Ytkmblomkocfldaa.L
