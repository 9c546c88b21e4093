import Derived.Test.YtndpfegbbpoopaaZYA
import Derived.Test.YtndpfegbbpoopaaZYB
import Derived.Test.YtndpfegbbpoopaaZYC
import Derived.Test.YtndpfegbbpoopaaZA3
set_option linter.unusedVariables false
set_option linter.unusedSimpArgs false
namespace Go.Proofs.Ytndpfegbbpoopaa.L
open Go Go.V Go.RowKit Go.Proofs.Ytndpfegbbpoopaa.Sp Go.Proofs.Ytndpfegbbpoopaa.F
open Go.Proofs (Try.prog)
noncomputable section
def CTx (S : Sg) (tx : Int → ByteArray) (pv pk : ByteArray → Int) : FuncId → List AV → Option (Bool × AV) := addC 9 (tPrt S tx) (addC 10 (tPrt S tx) (addC 7 (tPrs S pv pk) (addC 8 (tPrs S pv pk) (addC 6 tAwake noC))))
theorem texts_tree (S : Sg) (tx : Int → ByteArray) (pv pk : ByteArray → Int) (b : Bool) (t s : ByteArray) : callA Try.prog ⟨CTx S tx pv pk, fun _ => false, noL⟩ 10 10 3 [.agg [.val (.bool b), .val (.string t)], .val (.string s)] =
    (bif decide ((60 : Int) < (↑t.size : Int)) then some (.val (.bool true)) else (bif decide ((200 : Int) < (↑s.size : Int)) then (bif decide ((↑s.size : Int) ≤ (65536 : Int)) then some (.val (.bool true)) else (bif okt t then (bif okt t then (bif strEq (tx (S.val b t)) (tx (S.val b t)) then (bif bif false then !(S.ng (pv s) == S.ng (pv s) && (strEq (S.ms (pv s)) (S.ms (pv s)) && true)) else S.ng (pv s) == S.ng (pv s) && (strEq (S.ms (pv s)) (S.ms (pv s)) && true) then (bif decide (pk s = pk s) then some (.val (.bool true)) else some (.val (.bool false))) else some (.val (.bool false))) else some (.val (.bool false))) else none) else none)) else (bif okt t then (bif okt t then (bif strEq (tx (S.val b t)) (tx (S.val b t)) then (bif bif false then !(S.ng (pv s) == S.ng (pv s) && (strEq (S.ms (pv s)) (S.ms (pv s)) && true)) else S.ng (pv s) == S.ng (pv s) && (strEq (S.ms (pv s)) (S.ms (pv s)) && true) then (bif decide (pk s = pk s) then some (.val (.bool true)) else some (.val (.bool false))) else some (.val (.bool false))) else some (.val (.bool false))) else none) else none))) := by kernel_rfl
theorem CTx_ok : Meets Try.prog (CTx sg0 txt pvT pkT) := (((((meets_none _).add eAwake).add eRParse).add eParse).add eRPrint).add ePrint
theorem okt_small {s : ByteArray} (h : s.size ≤ 1000) : okt s = true := decide_eq_true (show s.size ≤ 1000000 by omega)
theorem texts_true (b : Bool) (t s : ByteArray) : callA Try.prog ⟨CTx sg0 txt pvT pkT, fun _ => false, noL⟩ 10 10 3 [.agg [.val (.bool b), .val (.string t)], .val (.string s)] = some (.val (.bool true)) := by
  rw [texts_tree]
  by_cases h1 : (60 : Int) < t.size
  · rw [dT h1]; rfl
  rw [dF h1, okt_small (s := t) (by omega), strEq_self, eqI (rfl : pvT s = pvT s), dT (rfl : pkT s = pkT s)]
  cases decide ((200 : Int) < (s.size : Int)) <;> cases decide ((s.size : Int) ≤ 65536) <;> rfl
theorem texts_walk (b : Bool) (t s : ByteArray) {q : Prop} (hq : q) (W : World) : Calls Try.prog 3 #[.agg #[.bool b, .string t], .string s] W fun e w' => e = .returned (.bool true) ∧ Below W.heap.size W w' :=
  law_walk CTx_ok loops_none (by kernel_rfl) (texts_true b t s) W ⟨_, _, rfl, arg_int _ _ b t, _, _, rfl, rfl, rfl⟩
end
end Go.Proofs.Ytndpfegbbpoopaa.L
