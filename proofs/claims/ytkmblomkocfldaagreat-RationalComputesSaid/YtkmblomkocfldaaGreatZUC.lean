/- RationalComputes holds. -/
import Derived.Test.YtkmblomkocfldaaGreatZUA
import Derived.Test.YtkmblomkocfldaaGreatZQB
set_option linter.unusedVariables false
set_option linter.unusedSimpArgs false

/- RationalComputes holds. -/
set_option linter.unusedVariables false
set_option linter.unusedSimpArgs false
namespace Go.Proofs.YtkmblomkocfldaaGreat.L
open Go Go.V Go.RowKit Go.Proofs.YtkmblomkocfldaaGreat.Sp Go.Proofs.YtkmblomkocfldaaGreat.F
open Go.Proofs (Tryz.prog)
noncomputable section
def CUC (Z : Qg) : FuncId → TF := addC 14 (tQQuo Z) (addC 15 (tRQuoQ Z) (addC 16 (tQNeg Z) (addC 17 (tRNegQ Z) (addC 18 (tQAdd Z) (addC 19 (tRAddQ Z) (addC 20 (tQSub Z) (addC 21 (tRSubQ Z) (addC 22 (tQMul Z) (addC 23 (tRMulQ Z) (addC 24 (tQCompare Z) (addC 25 (tRCmpQ Z) (addC 26 (tQSign Z) (addC 27 (tRSignQ Z) (addC 7 tAwakeQ noC))))))))))))))
theorem CUC_ok : Meets Tryz.prog (CUC sq0) := (((((((((((((((meets_none _).add eAwakeQ).add eRSignQ).add eQSign).add eRCmpQ).add eQCompare).add eRMulQ).add eQMul).add eRSubQ).add eQSub).add eRAddQ).add eQAdd).add eRNegQ).add eQNeg).add eRQuoQ).add eQQuo
theorem computes_tree (Z : Qg) (b c : Bool) (n d m e : ByteArray) : letI q_1 := (Z.qv b n d + Z.qv c m e); letI q_2 := (Z.qv b n d - Z.qv c m e); letI q_3 := (Z.qv b n d * Z.qv c m e); letI q_4 := (Z.qv b n d / Z.qv c m e); letI q_5 := (strEq (Z.qs (-Z.qv b n d)) (Z.qs (-Z.qv b n d)) && (strEq (Z.qd (-Z.qv b n d)) (Z.qd (-Z.qv b n d)) && true)); 
    (callA Tryz.prog ⟨CUC Z, fun _ => false, noL⟩ 10 10 4 [.agg [.val (.bool b), .val (.string n), .val (.string d)], .agg [.val (.bool c), .val (.string m), .val (.string e)]] = (bif decide ((60 : Int) < (↑n.size : Int)) then some (.val (.bool true)) else (bif decide ((60 : Int) < (↑d.size : Int)) then some (.val (.bool true)) else (bif decide ((60 : Int) < (↑m.size : Int)) then some (.val (.bool true)) else (bif decide ((60 : Int) < (↑e.size : Int)) then some (.val (.bool true)) else (bif Z.ok n d && Z.ok m e then (bif Z.oks n d && Z.oks m e then (bif Z.ok n d then (bif Z.oks n d then (bif bif false then !(Z.qn (-Z.qv b n d) == Z.qn (-Z.qv b n d) && q_5) else Z.qn (-Z.qv b n d) == Z.qn (-Z.qv b n d) && q_5 then (bif Z.ok n d && Z.ok m e then (bif Z.oks n d && Z.oks m e then (bif bif false then !(Z.qn q_1 == Z.qn q_1 && (strEq (Z.qs q_1) (Z.qs q_1) && (strEq (Z.qd q_1) (Z.qd q_1) && true))) else Z.qn q_1 == Z.qn q_1 && (strEq (Z.qs q_1) (Z.qs q_1) && (strEq (Z.qd q_1) (Z.qd q_1) && true)) then (bif Z.ok n d && Z.ok m e then (bif Z.oks n d && Z.oks m e then (bif bif false then !(Z.qn q_2 == Z.qn q_2 && (strEq (Z.qs q_2) (Z.qs q_2) && (strEq (Z.qd q_2) (Z.qd q_2) && true))) else Z.qn q_2 == Z.qn q_2 && (strEq (Z.qs q_2) (Z.qs q_2) && (strEq (Z.qd q_2) (Z.qd q_2) && true)) then (bif Z.ok n d && Z.ok m e then (bif Z.oks n d && Z.oks m e then (bif bif false then !(Z.qn q_3 == Z.qn q_3 && (strEq (Z.qs q_3) (Z.qs q_3) && (strEq (Z.qd q_3) (Z.qd q_3) && true))) else Z.qn q_3 == Z.qn q_3 && (strEq (Z.qs q_3) (Z.qs q_3) && (strEq (Z.qd q_3) (Z.qd q_3) && true)) then (bif bif false then !(Z.qn q_4 == Z.qn q_4 && (strEq (Z.qs q_4) (Z.qs q_4) && (strEq (Z.qd q_4) (Z.qd q_4) && true))) else Z.qn q_4 == Z.qn q_4 && (strEq (Z.qs q_4) (Z.qs q_4) && (strEq (Z.qd q_4) (Z.qd q_4) && true)) then (bif decide (Z.qe (Z.qv c m e) = Z.qe (Z.qv c m e)) then (bif Z.ok n d && Z.ok m e then (bif Z.oks n d && Z.oks m e then (bif decide (Z.cq (Z.qv b n d) (Z.qv c m e) = Z.cq (Z.qv b n d) (Z.qv c m e)) then (bif Z.ok n d then (bif Z.oks n d then (bif decide (Z.sq (Z.qv b n d) = Z.sq (Z.qv b n d)) then some (.val (.bool true)) else some (.val (.bool false))) else none) else none) else some (.val (.bool false))) else none) else none) else some (.val (.bool false))) else some (.val (.bool false))) else some (.val (.bool false))) else none) else none) else some (.val (.bool false))) else none) else none) else some (.val (.bool false))) else none) else none) else some (.val (.bool false))) else none) else none) else none) else none)))))) := by kernel_rfl
theorem computes_true (b c : Bool) (n d m e : ByteArray) : callA Tryz.prog ⟨CUC sq0, fun _ => false, noL⟩ 10 10 4 [.agg [.val (.bool b), .val (.string n), .val (.string d)], .agg [.val (.bool c), .val (.string m), .val (.string e)]] = some (.val (.bool true)) := by
  rw [computes_tree]
  by_cases h1 : (60 : Int) < n.size
  · rw [dT h1]; rfl
  by_cases h2 : (60 : Int) < d.size
  · rw [dF h1, dT h2]; rfl
  by_cases h3 : (60 : Int) < m.size
  · rw [dF h1, dF h2, dT h3]; rfl
  by_cases h4 : (60 : Int) < e.size
  · rw [dF h1, dF h2, dF h3, dT h4]; rfl
  rw [dF h1, dF h2, dF h3, dF h4, qok_small (n := n) (d := d) (by omega) (by omega), qoks_small (n := n) (d := d) (by omega) (by omega), qok_small (n := m) (d := e) (by omega) (by omega), qoks_small (n := m) (d := e) (by omega) (by omega)]
  simp only [beq_self_eq_true, strEq_self, eq_self, decide_true]
  rfl
theorem computes_walk (b : Bool) (n d : ByteArray) (c : Bool) (m e : ByteArray) (W : World) : Calls Tryz.prog 4 #[.agg #[.bool b, .string n, .string d], .agg #[.bool c, .string m, .string e]] W fun e w' => e = .returned (.bool true) ∧ Below W.heap.size W w' :=
  law_walk CUC_ok loops_none (by kernel_rfl) (computes_true b c n d m e) W ⟨_, _, rfl, arg_rat _ _ b n d, _, _, rfl, arg_rat _ _ c m e, rfl⟩
end
end Go.Proofs.YtkmblomkocfldaaGreat.L
