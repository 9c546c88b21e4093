/- RationalField: the law's tree. -/
import Derived.Test.YtkmblomkocfldaaZQB
set_option linter.unusedVariables false
set_option linter.unusedSimpArgs false

/- RationalField: the law's tree. -/
set_option linter.unusedVariables false
set_option linter.unusedSimpArgs false
namespace Go.Proofs.Ytkmblomkocfldaa.L
open Go Go.V Go.RowKit Go.Proofs.Ytkmblomkocfldaa.Sp Go.Proofs.Ytkmblomkocfldaa.F
open Go.Proofs (Try.prog)
noncomputable section
def CQF (Z : Qg) : FuncId → TF := addC 18 (tQAdd Z) (addC 22 (tQMul Z) (addC 23 (tQSub Z) (addC 21 (tQNeg Z) (addC 19 (tQOf Z) (addC 24 (tQQuo Z) (addC 25 (tQSign Z) (addC 11 tAwakeQ noC)))))))
theorem CQF_ok : Meets Try.prog (CQF sq0) := ((((((((meets_none _).add eAwakeQ).add eQSign).add eQQuo).add eQOf).add eQNeg).add eQSub).add eQMul).add eQAdd
theorem field_tree (Z : Qg) (b c g : Bool) (n d m e k l : ByteArray) : letI q_14 := (Z.fr (0 : Int) (1 : Int)); letI q_1 := (Z.qv b n d + Z.qv (Z.qn q_14) (Z.qs q_14) (Z.qd q_14)); letI q_5 := (Z.qv b n d * Z.qv c m e); letI q_22 := (Z.qv b n d * Z.qv g k l); letI q_2 := (Z.qv (Z.qn q_5) (Z.qs q_5) (Z.qd q_5) + Z.qv (Z.qn q_22) (Z.qs q_22) (Z.qd q_22)); letI q_3 := (Z.qv b n d + Z.qv c m e); letI q_4 := (Z.qv c m e + Z.qv g k l); letI q_20 := (Z.fr (1 : Int) (1 : Int)); letI q_6 := (Z.qv b n d * Z.qv (Z.qn q_20) (Z.qs q_20) (Z.qd q_20)); letI q_21 := (Z.qv c m e * Z.qv g k l); letI q_7 := (Z.qv b n d * Z.qv (Z.qn q_21) (Z.qs q_21) (Z.qd q_21)); letI q_15 := (Z.qv b n d / Z.qv c m e); letI q_8 := (Z.qv (Z.qn q_15) (Z.qs q_15) (Z.qd q_15) * Z.qv c m e); letI q_9 := (Z.qv b n d + Z.qv (Z.qn (-Z.qv b n d)) (Z.qs (-Z.qv b n d)) (Z.qd (-Z.qv b n d))); letI q_16 := (Z.qv (Z.qn q_3) (Z.qs q_3) (Z.qd q_3) + Z.qv g k l); letI q_17 := (Z.qv b n d + Z.qv (Z.qn q_4) (Z.qs q_4) (Z.qd q_4)); letI q_10 := (strEq (Z.qs q_16) (Z.qs q_17) && (strEq (Z.qd q_16) (Z.qd q_17) && true)); letI q_11 := (Z.qv (Z.qn q_5) (Z.qs q_5) (Z.qd q_5) * Z.qv g k l); letI q_12 := (Z.qv b n d * Z.qv (Z.qn q_4) (Z.qs q_4) (Z.qd q_4)); letI q_13 := (Z.qv (Z.qn q_3) (Z.qs q_3) (Z.qd q_3) - Z.qv c m e); letI q_18 := (strEq (Z.qs q_3) (Z.qs (Z.qv c m e + Z.qv b n d)) && (strEq (Z.qd q_3) (Z.qd (Z.qv c m e + Z.qv b n d)) && true)); letI q_19 := (strEq (Z.qs q_5) (Z.qs (Z.qv c m e * Z.qv b n d)) && (strEq (Z.qd q_5) (Z.qd (Z.qv c m e * Z.qv b n d)) && true)); letI q_23 := (strEq (Z.qs q_15) (ByteArray.mk #[]) && (strEq (Z.qd q_15) (ByteArray.mk #[]) && true)); 
    (callA Try.prog ⟨CQF Z, fun _ => false, noL⟩ 10 10 4 [.agg [.val (.bool b), .val (.string n), .val (.string d)], .agg [.val (.bool c), .val (.string m), .val (.string e)], .agg [.val (.bool g), .val (.string k), .val (.string l)]] = (bif decide ((60 : Int) < (↑n.size : Int)) then some (.val (.bool true)) else (bif decide ((60 : Int) < (↑d.size : Int)) then some (.val (.bool true)) else (bif decide ((60 : Int) < (↑m.size : Int)) then some (.val (.bool true)) else (bif decide ((60 : Int) < (↑e.size : Int)) then some (.val (.bool true)) else (bif decide ((60 : Int) < (↑k.size : Int)) then some (.val (.bool true)) else (bif decide ((60 : Int) < (↑l.size : Int)) then some (.val (.bool true)) else (bif Z.ok n d && Z.ok m e then (bif Z.ok m e && Z.ok n d then (bif bif true then !(Z.qn q_3 == Z.qn (Z.qv c m e + Z.qv b n d) && q_18) else Z.qn q_3 == Z.qn (Z.qv c m e + Z.qv b n d) && q_18 then some (.val (.bool false)) else (bif Z.ok n d && Z.ok m e then (bif Z.ok m e && Z.ok n d then (bif bif true then !(Z.qn q_5 == Z.qn (Z.qv c m e * Z.qv b n d) && q_19) else Z.qn q_5 == Z.qn (Z.qv c m e * Z.qv b n d) && q_19 then some (.val (.bool false)) else (bif Z.ok n d && Z.ok m e then (bif Z.ok (Z.qs q_3) (Z.qd q_3) && Z.ok k l then (bif Z.ok m e && Z.ok k l then (bif Z.ok n d && Z.ok (Z.qs q_4) (Z.qd q_4) then (bif bif true then !(Z.qn q_16 == Z.qn q_17 && q_10) else Z.qn q_16 == Z.qn q_17 && q_10 then some (.val (.bool false)) else (bif Z.ok n d && Z.ok m e then (bif Z.ok (Z.qs q_5) (Z.qd q_5) && Z.ok k l then (bif Z.ok m e && Z.ok k l then (bif Z.ok n d && Z.ok (Z.qs q_21) (Z.qd q_21) then (bif bif true then !(Z.qn q_11 == Z.qn q_7 && (strEq (Z.qs q_11) (Z.qs q_7) && (strEq (Z.qd q_11) (Z.qd q_7) && true))) else Z.qn q_11 == Z.qn q_7 && (strEq (Z.qs q_11) (Z.qs q_7) && (strEq (Z.qd q_11) (Z.qd q_7) && true)) then some (.val (.bool false)) else (bif Z.ok m e && Z.ok k l then (bif Z.ok n d && Z.ok (Z.qs q_4) (Z.qd q_4) then (bif Z.ok n d && Z.ok m e then (bif Z.ok n d && Z.ok k l then (bif Z.ok (Z.qs q_5) (Z.qd q_5) && Z.ok (Z.qs q_22) (Z.qd q_22) then (bif bif true then !(Z.qn q_12 == Z.qn q_2 && (strEq (Z.qs q_12) (Z.qs q_2) && (strEq (Z.qd q_12) (Z.qd q_2) && true))) else Z.qn q_12 == Z.qn q_2 && (strEq (Z.qs q_12) (Z.qs q_2) && (strEq (Z.qd q_12) (Z.qd q_2) && true)) then some (.val (.bool false)) else (bif Z.ok n d && Z.ok (Z.qs q_14) (Z.qd q_14) then (bif Z.ok n d && Z.ok m e then (bif Z.ok (Z.qs q_3) (Z.qd q_3) && Z.ok m e then (bif bif true then !(Z.qn q_13 == Z.qn q_1 && (strEq (Z.qs q_13) (Z.qs q_1) && (strEq (Z.qd q_13) (Z.qd q_1) && true))) else Z.qn q_13 == Z.qn q_1 && (strEq (Z.qs q_13) (Z.qs q_1) && (strEq (Z.qd q_13) (Z.qd q_1) && true)) then some (.val (.bool false)) else (bif Z.ok n d then (bif Z.ok n d && Z.ok (Z.qs (-Z.qv b n d)) (Z.qd (-Z.qv b n d)) then (bif bif true then !(Z.qn q_9 == Z.qn q_14 && (strEq (Z.qs q_9) (Z.qs q_14) && (strEq (Z.qd q_9) (Z.qd q_14) && true))) else Z.qn q_9 == Z.qn q_14 && (strEq (Z.qs q_9) (Z.qs q_14) && (strEq (Z.qd q_9) (Z.qd q_14) && true)) then some (.val (.bool false)) else (bif Z.ok n d && Z.ok (Z.qs q_20) (Z.qd q_20) then (bif bif true then !(Z.qn q_6 == Z.qn q_1 && (strEq (Z.qs q_6) (Z.qs q_1) && (strEq (Z.qd q_6) (Z.qd q_1) && true))) else Z.qn q_6 == Z.qn q_1 && (strEq (Z.qs q_6) (Z.qs q_1) && (strEq (Z.qd q_6) (Z.qd q_1) && true)) then some (.val (.bool false)) else (bif Z.ok n d && Z.ok m e then (bif Z.ok m e then (bif decide (Z.sq (Z.qv c m e) = (0 : Int)) then (bif decide (Z.qe (Z.qv c m e) = (10 : Int)) then (bif bif false then !(Z.qn q_15 == false && q_23) else Z.qn q_15 == false && q_23 then some (.val (.bool true)) else some (.val (.bool false))) else some (.val (.bool false))) else (bif decide (Z.qe (Z.qv c m e) = (0 : Int)) then (bif Z.ok (Z.qs q_15) (Z.qd q_15) && Z.ok m e then (bif bif false then !(Z.qn q_8 == Z.qn q_1 && (strEq (Z.qs q_8) (Z.qs q_1) && (strEq (Z.qd q_8) (Z.qd q_1) && true))) else Z.qn q_8 == Z.qn q_1 && (strEq (Z.qs q_8) (Z.qs q_1) && (strEq (Z.qd q_8) (Z.qd q_1) && true)) then some (.val (.bool true)) else some (.val (.bool false))) else none) else some (.val (.bool false)))) else none) else none)) else none)) else none) else none)) else none) else none) else none)) else none) else none) else none) else none) else none)) else none) else none) else none) else none)) else none) else none) else none) else none)) else none) else none)) else none) else none)))))))) := by kernel_rfl
end
end Go.Proofs.Ytkmblomkocfldaa.L

/- RationalField holds. -/
set_option linter.unusedVariables false
set_option linter.unusedSimpArgs false
namespace Go.Proofs.Ytkmblomkocfldaa.L
open Go Go.V Go.RowKit Go.Proofs.Ytkmblomkocfldaa.Sp Go.Proofs.Ytkmblomkocfldaa.F
open Go.Proofs (Try.prog)
noncomputable section
theorem field_true (b c g : Bool) (n d m e k l : ByteArray) : callA Try.prog ⟨CQF sq0, fun _ => false, noL⟩ 10 10 4 [.agg [.val (.bool b), .val (.string n), .val (.string d)], .agg [.val (.bool c), .val (.string m), .val (.string e)], .agg [.val (.bool g), .val (.string k), .val (.string l)]] = some (.val (.bool true)) := by
  rw [field_tree]
  by_cases h1 : (60 : Int) < n.size
  · rw [dT h1]; rfl
  by_cases h2 : (60 : Int) < d.size
  · rw [dF h1, dT h2]; rfl
  by_cases h3 : (60 : Int) < m.size
  · rw [dF h1, dF h2, dT h3]; rfl
  by_cases h4 : (60 : Int) < e.size
  · rw [dF h1, dF h2, dF h3, dT h4]; rfl
  by_cases h5 : (60 : Int) < k.size
  · rw [dF h1, dF h2, dF h3, dF h4, dT h5]; rfl
  by_cases h6 : (60 : Int) < l.size
  · rw [dF h1, dF h2, dF h3, dF h4, dF h5, dT h6]; rfl
  rw [dF h1, dF h2, dF h3, dF h4, dF h5, dF h6]
  have o1 := qok_small (n := n) (d := d) (by omega) (by omega)
  have o2 := qok_small (n := m) (d := e) (by omega) (by omega)
  have o3 := qok_small (n := k) (d := l) (by omega) (by omega)
  have z1 := szq_val60 b (n := n) (d := d) (by omega) (by omega)
  have z2 := szq_val60 c (n := m) (d := e) (by omega) (by omega)
  have z3 := szq_val60 g (n := k) (d := l) (by omega) (by omega)
  have hqe : ∀ q : Rat, sq0.qe q = if q = 0 then 10 else 0 := fun q => rfl
  simp only [qv_rat, sqz, fr11, fr01, Rat.add_zero, Rat.mul_one, hqe]
  rw [o1, o2, o3]
  generalize sq0.qv b n d = x at *
  generalize sq0.qv c m e = y at *
  generalize sq0.qv g k l = z at *
  have s1 := szq_add x y
  have s2 := szq_add y z
  have s3 := szq_mul x y
  have s4 := szq_mul y z
  have s5 := szq_mul x z
  have s6 := szq_neg x
  have s7 := szq_div x y
  have s8 := szq_zero
  have s9 := szq_one
  rw [ok_rat (q := x + y) (by omega), ok_rat (q := y + z) (by omega), ok_rat (q := x * y) (by omega), ok_rat (q := y * z) (by omega), ok_rat (q := x * z) (by omega), ok_rat (q := (0 : Rat)) (by omega), ok_rat (q := (1 : Rat)) (by omega), ok_rat (q := -x) (by omega), ok_rat (q := x / y) (by omega),
    eqQ (Rat.add_comm x y), eqQ (Rat.mul_comm x y), eqQ (Rat.add_assoc x y z), eqQ (Rat.mul_assoc x y z), eqQ (Rat.mul_add x y z), eqQ (show x + y - y = x by grind), eqQ (show x + -x = 0 by grind), eqQ (rfl : x = x)]
  by_cases h : y = 0
  · rw [dT ((cq_zero y 0).2 h), if_pos h, eqQ0 (show x / y = 0 by rw [h, Rat.div_def, Rat.inv_zero, Rat.mul_zero])]; rfl
  · rw [dF (fun h' => h ((cq_zero y 0).1 h')), if_neg h, eqQ (show x / y * y = x by grind)]; rfl
theorem field_walk (b : Bool) (n d : ByteArray) (c : Bool) (m e : ByteArray) (g : Bool) (k l : ByteArray) (W : World) : Calls Try.prog 4 #[.agg #[.bool b, .string n, .string d], .agg #[.bool c, .string m, .string e], .agg #[.bool g, .string k, .string l]] W fun e w' => e = .returned (.bool true) ∧ Below W.heap.size W w' :=
  law_walk CQF_ok loops_none (by kernel_rfl) (field_true b c g n d m e k l) W ⟨_, _, rfl, arg_rat _ _ b n d, _, _, rfl, arg_rat _ _ c m e, _, _, rfl, arg_rat _ _ g k l, rfl⟩
end
end Go.Proofs.Ytkmblomkocfldaa.L
