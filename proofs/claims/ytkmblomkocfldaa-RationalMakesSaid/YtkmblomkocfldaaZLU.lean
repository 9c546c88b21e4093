/- RationalMakes holds. -/
import Derived.Test.YtkmblomkocfldaaZUA
import Derived.Test.YtkmblomkocfldaaZQB
set_option linter.unusedVariables false
set_option linter.unusedSimpArgs false

/- RationalMakes holds. -/
set_option linter.unusedVariables false
set_option linter.unusedSimpArgs false
namespace Go.Proofs.Ytkmblomkocfldaa.L
open Go Go.V Go.RowKit Go.Proofs.Ytkmblomkocfldaa.Sp Go.Proofs.Ytkmblomkocfldaa.F
open Go.Proofs (Try.prog)
noncomputable section
def tRParts (S : Sg) (Z : Qg) : TF := tR1 Z fun b n d => .tup [S.int (Z.nu (Z.qv b n d)), S.int (Z.de (Z.qv b n d))]
def tRCheck (Z : Qg) : TF := tR1 Z fun b n d => .val (.int .i64 (Z.ck b n d))
def CUM (S : Sg) (X : Xg) (Z : Qg) : FuncId → TF := addC 29 (tQRatio X Z) (addC 30 (tQRatio X Z) (addC 31 (tQNew S X Z) (addC 32 (tRNew S X Z) (addC 15 (tQParts S Z) (addC 33 (tRParts S Z) (addC 19 (tQOf Z) (addC 34 (tQOf Z) (addC 35 (tQCheck Z) (addC 36 (tRCheck Z) (addC 11 tAwakeQ noC))))))))))
theorem CUM_ok : Meets Try.prog (CUM sg0 xg0 sq0) := (((((((((((meets_none _).add eAwakeQ).add eRQCheck).add eQCheck).add eRQOf).add eQOf).add eRQParts).add eQParts).add eRQNew).add eQNew).add eRQRatio).add eQRatio
theorem makes_tree (S : Sg) (X : Xg) (Z : Qg) (z w : Int) (b c g : Bool) (s t n d : ByteArray) : letI q_1 := (Z.fr (S.val b s) (S.val c t)); letI q_2 := (strEq (Z.qs (Z.fr z (1 : Int))) (Z.qs (Z.fr z (1 : Int))) && (strEq (Z.qd (Z.fr z (1 : Int))) (Z.qd (Z.fr z (1 : Int))) && true)); letI q_3 := (strEq (Z.qs (Z.fr z w)) (Z.qs (Z.fr z w)) && (strEq (Z.qd (Z.fr z w)) (Z.qd (Z.fr z w)) && true)); 
    (callA Try.prog ⟨CUM S X Z, fun _ => false, noL⟩ 10 10 7 [.val (.int .i64 z), .val (.int .i64 w), .agg [.val (.bool b), .val (.string s)], .agg [.val (.bool c), .val (.string t)], .agg [.val (.bool g), .val (.string n), .val (.string d)]] = (bif decide ((60 : Int) < (↑n.size : Int)) then some (.val (.bool true)) else (bif decide ((60 : Int) < (↑d.size : Int)) then some (.val (.bool true)) else (bif decide ((60 : Int) < (↑s.size : Int)) then some (.val (.bool true)) else (bif decide ((60 : Int) < (↑t.size : Int)) then some (.val (.bool true)) else (bif inI z && inI w then (bif inI z && inI w then (bif S.ok s && S.ok t then (bif X.ok2 s && X.ok2 t then (bif Z.ok n d then (bif Z.oks n d then (bif inI z then (bif inI z then (bif bif false then !(Z.qn (Z.fr z (1 : Int)) == Z.qn (Z.fr z (1 : Int)) && q_2) else Z.qn (Z.fr z (1 : Int)) == Z.qn (Z.fr z (1 : Int)) && q_2 then (bif bif false then !(Z.qn (Z.fr z w) == Z.qn (Z.fr z w) && q_3) else Z.qn (Z.fr z w) == Z.qn (Z.fr z w) && q_3 then (bif decide (X.de w = X.de w) then (bif bif false then !(Z.qn q_1 == Z.qn q_1 && (strEq (Z.qs q_1) (Z.qs q_1) && (strEq (Z.qd q_1) (Z.qd q_1) && true))) else Z.qn q_1 == Z.qn q_1 && (strEq (Z.qs q_1) (Z.qs q_1) && (strEq (Z.qd q_1) (Z.qd q_1) && true)) then (bif decide (X.de (S.val c t) = X.de (S.val c t)) then (bif Z.ok n d then (bif Z.oks n d then (bif decide (Z.ck g n d = Z.ck g n d) then (bif bif false then !(S.ng (Z.nu (Z.qv g n d)) == S.ng (Z.nu (Z.qv g n d)) && (strEq (S.ms (Z.nu (Z.qv g n d))) (S.ms (Z.nu (Z.qv g n d))) && true)) else S.ng (Z.nu (Z.qv g n d)) == S.ng (Z.nu (Z.qv g n d)) && (strEq (S.ms (Z.nu (Z.qv g n d))) (S.ms (Z.nu (Z.qv g n d))) && true) then (bif bif false then !(S.ng (Z.de (Z.qv g n d)) == S.ng (Z.de (Z.qv g n d)) && (strEq (S.ms (Z.de (Z.qv g n d))) (S.ms (Z.de (Z.qv g n d))) && true)) else S.ng (Z.de (Z.qv g n d)) == S.ng (Z.de (Z.qv g n d)) && (strEq (S.ms (Z.de (Z.qv g n d))) (S.ms (Z.de (Z.qv g n d))) && true) then some (.val (.bool true)) else some (.val (.bool false))) else some (.val (.bool false))) else some (.val (.bool false))) else none) else none) else some (.val (.bool false))) else some (.val (.bool false))) else some (.val (.bool false))) else some (.val (.bool false))) else some (.val (.bool false))) else none) else none) else none) else none) else none) else none) else none) else none)))))) := by kernel_rfl
theorem makes_true (z w : Int) (hz : inI z = true) (hw : inI w = true) (b c g : Bool) (s t n d : ByteArray) : callA Try.prog ⟨CUM sg0 xg0 sq0, fun _ => false, noL⟩ 10 10 7 [.val (.int .i64 z), .val (.int .i64 w), .agg [.val (.bool b), .val (.string s)], .agg [.val (.bool c), .val (.string t)], .agg [.val (.bool g), .val (.string n), .val (.string d)]] = some (.val (.bool true)) := by
  rw [makes_tree]
  by_cases h1 : (60 : Int) < n.size
  · rw [dT h1]; rfl
  by_cases h2 : (60 : Int) < d.size
  · rw [dF h1, dT h2]; rfl
  by_cases h3 : (60 : Int) < s.size
  · rw [dF h1, dF h2, dT h3]; rfl
  by_cases h4 : (60 : Int) < t.size
  · rw [dF h1, dF h2, dF h3, dT h4]; rfl
  have x1 : xg0.ok2 s = true := by rw [x_ok2]; exact decide_eq_true (by omega)
  have x2 : xg0.ok2 t = true := by rw [x_ok2]; exact decide_eq_true (by omega)
  rw [dF h1, dF h2, dF h3, dF h4, hz, hw, ok_small (s := s) (by omega), ok_small (s := t) (by omega), x1, x2, qok_small (n := n) (d := d) (by omega) (by omega), qoks_small (n := n) (d := d) (by omega) (by omega)]
  simp only [beq_self_eq_true, strEq_self, eq_self, decide_true]
  rfl
theorem wf_in {z : Int} (hz : (Lit.int .i64 z).wf = true) : inI z = true := by
  unfold Lit.wf at hz
  simp only [Bool.and_eq_true, decide_eq_true_eq] at hz
  have h1 : (-9223372036854775808 : Int) ≤ z := hz.1
  have h2 : z ≤ 9223372036854775807 := hz.2
  unfold inI
  rw [dT h1, dT h2]; rfl
theorem makes_walk (z : Int) (hz : (Lit.int .i64 z).wf = true) (w : Int) (hw : (Lit.int .i64 w).wf = true) (b : Bool) (s : ByteArray) (c : Bool) (t : ByteArray) (g : Bool) (n d : ByteArray) (W : World) : Calls Try.prog 7 #[.int .i64 z, .int .i64 w, .agg #[.bool b, .string s], .agg #[.bool c, .string t], .agg #[.bool g, .string n, .string d]] W fun e w' => e = .returned (.bool true) ∧ Below W.heap.size W w' :=
  law_walk CUM_ok loops_none (by kernel_rfl) (makes_true z w (wf_in hz) (wf_in hw) b c g s t n d) W ⟨_, _, rfl, rfl, _, _, rfl, rfl, _, _, rfl, arg_int _ _ b s, _, _, rfl, arg_int _ _ c t, _, _, rfl, arg_rat _ _ g n d, rfl⟩
end
end Go.Proofs.Ytkmblomkocfldaa.L
