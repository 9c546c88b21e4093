/- BigintQuotients holds. -/
import Derived.Test.YtlpfnbopmigefaaZX2
import Derived.Test.YtlpfnbopmigefaaZX3
import Derived.Test.YtlpfnbopmigefaaZME
import Derived.Test.YtlpfnbopmigefaaZA3
set_option linter.unusedVariables false
set_option linter.unusedSimpArgs false

/- BigintQuotients holds. -/
set_option linter.unusedVariables false
set_option linter.unusedSimpArgs false
namespace Go.Proofs.Ytlpfnbopmigefaa.L
open Go Go.V Go.RowKit Go.Proofs.Ytlpfnbopmigefaa.Sp Go.Proofs.Ytlpfnbopmigefaa.F
open Go.Proofs (Try.prog)
noncomputable section
theorem pow2 (k : Nat) : (256 : Nat) ^ k = 2 ^ (8 * k) := by rw [Nat.pow_mul]
theorem ng_nn' (n : Nat) : sg0.ng (n : Int) = false := by rw [ng_eq]; exact decide_eq_false (by omega)
theorem eq_int (x y : Int) : (sg0.ng x == sg0.ng y && (strEq (sg0.ms x) (sg0.ms y) && true)) = decide (x = y) := by
  by_cases h : x = y
  · rw [eqI h, decide_eq_true h]
  · rw [decide_eq_false h, Bool.eq_false_iff]
    intro h2
    simp only [Bool.and_eq_true, beq_iff_eq, strEq_iff, decide_eq_true_eq] at h2
    obtain ⟨h3, h4, _⟩ := h2
    have h6 := val_ms x
    rw [h3, h4, val_ms] at h6
    exact h h6.symm
theorem eRRootX (X : Xg) (h1 : X.rt = fun z => if z < 0 then 0 else (rootN z.natAbs : Int)) (h2 : X.rx = fun z => if z < 0 then false else decide (rootN z.natAbs * rootN z.natAbs = z.natAbs)) (h3 : X.re = fun z => if z < 0 then 2 else 0) (h4 : X.ok2 = fun s => decide (s.size ≤ 68719476736)) : Entry Try.prog 25 (tRoot sg0 X) := by
  refine entry_of (E := ⟨CRR sg0, Kall, LL_rr cond_rr phi_rr noL⟩) (u := 10) (d := 10) CRR_ok (LL_rr_ok LOk.none).ok mixed (by kernel_rfl) (fun args r h => ?_)
  unfold tRoot at h
  split at h
  · rename_i b s
    rw [h1, h2, h3, h4] at h
    simp only [Option.some.injEq, Prod.mk.injEq, decide_eq_true_eq] at h
    obtain ⟨g1, rfl⟩ := h
    have hcall := rroot_call sg0 cond_rr phi_rr b s
    have hb := bs_val b s
    generalize sg0.val b s = z at *
    rw [ng_eq] at hcall
    by_cases h0 : z < 0
    · rw [dT h0] at hcall
      rw [hcall, if_pos h0, if_pos h0, if_pos h0, int_nn (Int.le_refl 0)]
      have e3 : sg0.mg (0 : Int).natAbs = ByteArray.mk #[] := ms_zero
      rw [e3]; rfl
    · rw [dF h0] at hcall
      obtain ⟨n, rfl⟩ := Int.eq_ofNat_of_zero_le (show 0 ≤ z by omega)
      rw [Int.natAbs_natCast] at *
      have hv : sg0.vs (sg0.ms (n : Int)) = n := by rw [vs_ms, Int.natAbs_natCast]
      have hlt : n < 2 ^ sg0.bl n := (blen_is n).1
      have hbl : sg0.bl n ≤ 8 * bs n := bl_le n _ (by have := bs_lt n; rwa [pow2 (bs n)] at this)
      have hk : (((sg0.bl n : Nat) : Int) + 1).tdiv 2 = (((sg0.bl n + 1) / 2 : Nat) : Int) := rfl
      have hng : decide ((n : Int) < 0) = sg0.ng (n : Int) := (ng_eq _).symm
      have hng0 : sg0.ng (n : Int) = false := ng_nn' n
      have hp : pre_rr (((sg0.bl n + 1) / 2 : Nat) : Int) false (sg0.ms (n : Int)) false (ByteArray.mk #[]) false (ByteArray.mk #[]) :=
        ⟨n, (sg0.bl n + 1) / 2 + 1, by rw [← hng0]; exact val_ms _, by rw [size_ms, Int.natAbs_natCast]; omega, by omega, by omega, rfl, ms_zero.symm, by
          refine Nat.lt_of_lt_of_le hlt ?_
          rw [← Nat.pow_add]
          exact Nat.pow_le_pow_right (by decide) (by omega)⟩
      obtain ⟨_, q1, q2⟩ := phi_rr_spec _ _ _ _ _ _ _ hp
      have v0 : sg0.val false (sg0.ms (n : Int)) = (n : Int) := by rw [← hng0]; exact val_ms _
      rw [v0, Int.natAbs_natCast] at q1 q2
      rw [hv, hk, cond_rr_eq _ _ _ _ _ _ _ hp, q1, q2] at hcall
      have hR : rootN n ≤ n := by
        rcases Nat.eq_zero_or_pos (rootN n) with e | e
        · omega
        · exact Nat.le_trans (Nat.le_mul_of_pos_left _ e) (rootN_is n).1
      have hbR := bs_mono hR
      simp only [val_ms] at hcall
      rw [ok_ms (z := (n : Int)) (by rw [Int.natAbs_natCast]; omega), ok_ms (z := ((rootN n : Nat) : Int)) (by rw [Int.natAbs_natCast]; omega), i64T (z := ((sg0.bl n : Nat) : Int) + 1) (by omega), i64T (z := (((sg0.bl n + 1) / 2 : Nat) : Int)) (by omega)] at hcall
      rw [hcall, if_neg h0, if_neg h0, if_neg h0]
      have e := eq_int (((rootN n : Nat) : Int) * ((rootN n : Nat) : Int)) (n : Int)
      rw [hng0] at e
      have key : decide (((rootN n : Nat) : Int) * ((rootN n : Nat) : Int) = (n : Int)) = decide (rootN n * rootN n = n) := decide_eq_decide.2 (by rw [← Int.natCast_mul]; omega)
      rw [e, key]
      rfl
  · cases h
theorem eRRoot : Entry Try.prog 25 (tRoot sg0 xg0) := eRRootX xg0 rfl rfl rfl rfl
def CBQ (S : Sg) (X : Xg) : FuncId → List AV → Option (Bool × AV) := addC 22 (tDiv S X) (addC 23 (tDiv2 S X) (addC 24 (tRoot S X) (addC 25 (tRoot S X) (addC 26 (tGcd S X) (addC 27 (tGcd2 S X) (addC 15 tAwake noC))))))
theorem CBQ_ok : Meets Try.prog (CBQ sg0 xg0) := (((((((meets_none _).add eAwake).add (eRGcdX xg0 rfl rfl)).add eGcd).add eRRoot).add eRoot).add (eRDivX xg0 rfl rfl rfl rfl)).add eDiv
theorem quot_tree (S : Sg) (X : Xg) (b c : Bool) (s t : ByteArray) : letI q_1 := (X.gcd (S.val b s) (S.val c t)); letI q_2 := (X.dq (S.val b s) (S.val c t)); letI q_3 := (X.dr (S.val b s) (S.val c t)); 
    (callA Try.prog ⟨CBQ S X, fun _ => false, noL⟩ 10 10 4 [.agg [.val (.bool b), .val (.string s)], .agg [.val (.bool c), .val (.string t)]] = (bif decide ((60 : Int) < (↑s.size : Int)) then some (.val (.bool true)) else (bif decide ((60 : Int) < (↑t.size : Int)) then some (.val (.bool true)) else (bif S.ok s && S.ok t then (bif X.ok2 s && X.ok2 t then (bif X.ok2 s then (bif X.ok2 s then (bif bif false then !(S.ng q_2 == S.ng q_2 && (strEq (S.ms q_2) (S.ms q_2) && true)) else S.ng q_2 == S.ng q_2 && (strEq (S.ms q_2) (S.ms q_2) && true) then (bif bif false then !(S.ng q_3 == S.ng q_3 && (strEq (S.ms q_3) (S.ms q_3) && true)) else S.ng q_3 == S.ng q_3 && (strEq (S.ms q_3) (S.ms q_3) && true) then (bif decide (X.de (S.val c t) = X.de (S.val c t)) then (bif S.ok s && S.ok t then (bif X.ok2 s && X.ok2 t then (bif bif false then !(S.ng q_1 == S.ng q_1 && (strEq (S.ms q_1) (S.ms q_1) && true)) else S.ng q_1 == S.ng q_1 && (strEq (S.ms q_1) (S.ms q_1) && true) then (bif bif false then !(S.ng (X.rt (S.val b s)) == S.ng (X.rt (S.val b s)) && (strEq (S.ms (X.rt (S.val b s))) (S.ms (X.rt (S.val b s))) && true)) else S.ng (X.rt (S.val b s)) == S.ng (X.rt (S.val b s)) && (strEq (S.ms (X.rt (S.val b s))) (S.ms (X.rt (S.val b s))) && true) then (bif bif false then !X.rx (S.val b s) == X.rx (S.val b s) else X.rx (S.val b s) == X.rx (S.val b s) then (bif decide (X.re (S.val b s) = X.re (S.val b s)) then some (.val (.bool true)) else some (.val (.bool false))) else some (.val (.bool false))) else some (.val (.bool false))) else some (.val (.bool false))) else none) else none) else some (.val (.bool false))) else some (.val (.bool false))) else some (.val (.bool false))) else none) else none) else none) else none)))) := by kernel_rfl
theorem quot_true (b c : Bool) (s t : ByteArray) : callA Try.prog ⟨CBQ sg0 xg0, fun _ => false, noL⟩ 10 10 4 [.agg [.val (.bool b), .val (.string s)], .agg [.val (.bool c), .val (.string t)]] = some (.val (.bool true)) := by
  rw [quot_tree]
  by_cases h1 : (60 : Int) < s.size
  · rw [dT h1]; rfl
  by_cases h2 : (60 : Int) < t.size
  · rw [dF h1, dT h2]; rfl
  have x2 : ∀ s : ByteArray, xg0.ok2 s = decide (s.size ≤ 68719476736) := fun s => rfl
  have x3 : xg0.ok2 s = true := by rw [x2]; exact decide_eq_true (by omega)
  have x4 : xg0.ok2 t = true := by rw [x2]; exact decide_eq_true (by omega)
  rw [dF h1, dF h2, ok_small (s := s) (by omega), ok_small (s := t) (by omega), x3, x4]
  simp only [beq_self_eq_true, strEq_self, eq_self, decide_true]
  rfl
theorem quot_walk (b : Bool) (s : ByteArray) (c : Bool) (t : ByteArray) (W : World) : Calls Try.prog 4 #[.agg #[.bool b, .string s], .agg #[.bool c, .string t]] W fun e w' => e = .returned (.bool true) ∧ Below W.heap.size W w' :=
  law_walk CBQ_ok loops_none (by kernel_rfl) (quot_true b c s t) W ⟨_, _, rfl, arg_int _ _ b s, _, _, rfl, arg_int _ _ c t, rfl⟩
end
end Go.Proofs.Ytlpfnbopmigefaa.L
