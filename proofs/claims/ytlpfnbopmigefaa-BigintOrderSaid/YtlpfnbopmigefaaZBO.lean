/- BigintOrder holds. -/
import Derived.Test.YtlpfnbopmigefaaZTO
import Derived.Test.YtlpfnbopmigefaaZBZ
set_option linter.unusedVariables false
set_option linter.unusedSimpArgs false

/- BigintOrder holds. -/
set_option linter.unusedVariables false
set_option linter.unusedSimpArgs false
namespace Go.Proofs.Ytlpfnbopmigefaa.L
open Go Go.V Go.RowKit Go.Proofs.Ytlpfnbopmigefaa.Sp Go.Proofs.Ytlpfnbopmigefaa.F
open Go.Proofs (Try.prog)
noncomputable section
theorem cz_swap (x y : Int) : sg0.cmz x y = IntKind.i64.wrap (0 - sg0.cmz y x) := by
  show cmpZ x y = IntKind.i64.wrap (0 - cmpZ y x)
  rw [IntKind.wrap_i64]
  unfold cmpZ
  split <;> split <;> (try split) <;> omega
theorem cz_lo (x y : Int) : ¬ sg0.cmz x y < -1 := by
  show ¬ cmpZ x y < -1
  unfold cmpZ
  split <;> (try split) <;> omega
theorem cz_hi (x y : Int) : ¬ 1 < sg0.cmz x y := by
  show ¬ 1 < cmpZ x y
  unfold cmpZ
  split <;> (try split) <;> omega
theorem cz_sub (x y : Int) : sg0.cmz x y = sg0.cmz (x - y) 0 := by
  show cmpZ x y = cmpZ (x - y) 0
  unfold cmpZ
  split <;> split <;> (try split) <;> (try split) <;> omega
theorem cz_neg (x y : Int) : sg0.cmz x y = sg0.cmz (-y) (-x) := by
  show cmpZ x y = cmpZ (-y) (-x)
  unfold cmpZ
  split <;> split <;> (try split) <;> (try split) <;> omega
theorem cz_add (x y z : Int) : sg0.cmz x y = sg0.cmz (x + z) (y + z) := by
  show cmpZ x y = cmpZ (x + z) (y + z)
  unfold cmpZ
  split <;> split <;> (try split) <;> (try split) <;> omega
theorem cz_le (x y : Int) : sg0.cmz x y ≤ 0 ↔ x ≤ y := by
  show cmpZ x y ≤ 0 ↔ _
  unfold cmpZ
  split <;> (try split) <;> omega
theorem cz_lt (x y : Int) : sg0.cmz x y < 0 ↔ x < y := by
  show cmpZ x y < 0 ↔ _
  unfold cmpZ
  split <;> (try split) <;> omega
theorem cz_gt (x y : Int) : 0 < sg0.cmz x y ↔ y < x := by
  show 0 < cmpZ x y ↔ _
  unfold cmpZ
  split <;> (try split) <;> omega
theorem cz_ge (x y : Int) : 0 ≤ sg0.cmz x y ↔ y ≤ x := by
  show 0 ≤ cmpZ x y ↔ _
  unfold cmpZ
  split <;> (try split) <;> omega
theorem order_true (b c d : Bool) (s t u : ByteArray) : callA Try.prog (EOr sg0 cond_ord phi_ord) 10 10 7 [.agg [.val (.bool b), .val (.string s)], .agg [.val (.bool c), .val (.string t)], .agg [.val (.bool d), .val (.string u)]] = some (.val (.bool true)) := by
  rw [order_call]
  by_cases h1 : (60 : Int) < s.size
  · rw [dT h1]; rfl
  by_cases h2 : (60 : Int) < t.size
  · rw [dF h1, dT h2]; rfl
  by_cases h3 : (60 : Int) < u.size
  · rw [dF h1, dF h2, dT h3]; rfl
  rw [dF h1, dF h2, dF h3]
  have os := ok_small (s := s) (by omega)
  have ot := ok_small (s := t) (by omega)
  have ou := ok_small (s := u) (by omega)
  have bx := bs_val b s
  have by_ := bs_val c t
  have bz := bs_val d u
  have hvs := vs_val b s
  have hlen : sg0.vs s < 2 ^ (8 * s.size) := by rw [← pow256]; exact vS_lt s
  have hN : sg0.bl (sg0.vs s) ≤ 480 := by have := bl_le _ _ hlen; omega
  obtain ⟨hl1, hl2⟩ := blen_is (sg0.vs s)
  have hbl : blen (sg0.vs s) = sg0.bl (sg0.vs s) := rfl
  rw [hbl] at hl1 hl2
  have fin : ∀ (b0 : Bool) (s0 : ByteArray), ∃ r : Int × Bool × ByteArray × Bool × ByteArray, phi_ord (sg0.bl (sg0.vs s)) 0 b0 s0 (sg0.ng 1) (sg0.ms 1) false (ByteArray.mk #[]) = r ∧ cond_ord (sg0.bl (sg0.vs s)) 0 b0 s0 (sg0.ng 1) (sg0.ms 1) false (ByteArray.mk #[]) = true ∧ sg0.ok r.2.2.1 = true ∧ sg0.ok r.2.2.2.2 = true ∧ sg0.val r.2.1 r.2.2.1 = ((2 ^ sg0.bl (sg0.vs s) : Nat) : Int) ∧ sg0.val r.2.2.2.1 r.2.2.2.2 = hf (sg0.bl (sg0.vs s)) := by
    intro b0 s0
    have hp : pre_ord (sg0.bl (sg0.vs s)) 0 b0 s0 (sg0.ng 1) (sg0.ms 1) false (ByteArray.mk #[]) := ⟨_, rfl, hN, rfl, rfl, rfl, rfl, ms_zero.symm⟩
    obtain ⟨_, c1, c2, c3, c4⟩ := phi_ord_spec _ _ _ _ _ _ _ _ hp
    rw [Int.toNat_natCast] at c1 c2 c3 c4
    have q1 := bs_two hN
    refine ⟨_, rfl, cond_ord_eq _ _ _ _ _ _ _ _ hp, ?_, ?_, ?_, ?_⟩
    · rw [c2]; exact ok_ms (by rw [Int.natAbs_natCast]; omega)
    · rw [c4]; refine ok_ms ?_
      unfold hf
      split
      · rw [show bs (0 : Int).natAbs = 0 from by unfold bs; rw [show (0 : Int).natAbs = 0 from rfl, toB_zero]; rfl]; omega
      · rw [Int.natAbs_natCast]; have := bs_two (show sg0.bl (sg0.vs s) - 1 ≤ 480 by omega); omega
    · rw [c1, c2, val_ms]
    · rw [c3, c4, val_ms]
  have key : ∀ A : Int, A.natAbs = sg0.vs s → 0 ≤ A → hf (sg0.bl (sg0.vs s)) ≤ A ∧ A < ((2 ^ sg0.bl (sg0.vs s) : Nat) : Int) := by
    intro A hA h0
    constructor
    · unfold hf
      split
      · exact h0
      · have := hl2 (by omega); omega
    · omega
  simp only [val_ms, os, ot, ou, ok_nil, val_nil]
  generalize hX : sg0.val b s = x at *
  generalize sg0.val c t = y at *
  generalize sg0.val d u = z at *
  have q1 := bs_zadd x z
  have q2 := bs_zadd y z
  have q6 := bs_zsub x y
  have q7 := bs_neg x
  have q8 := bs_neg y
  rw [dT (cz_swap x y), dF (cz_lo x y), dF (cz_hi x y), ok_ms (z := x - y) (by omega), dT (cz_sub x y), ok_ms (z := -y) (by omega), ok_ms (z := -x) (by omega), dT (cz_neg x y), ok_ms (z := x + z) (by omega), ok_ms (z := y + z) (by omega), dT (cz_add x y z), dF (show ¬ (480 : Int) < (sg0.bl (sg0.vs s) : Int) by omega)]
  by_cases e0 : x < 0
  · obtain ⟨r, g1, g2, g3, g4, g5, g6⟩ := fin (sg0.ng (-x)) (sg0.ms (-x))
    obtain ⟨k1, k2⟩ := key (-x) (by rw [Int.natAbs_neg]; exact hvs.symm) (by omega)
    have w1 := (cz_lt x 0).2 e0
    rw [g2, g1, g3, g4, g5, g6]
    simp only [w1, decide_true]
    rw [dT ((cz_ge _ _).2 k1), dT ((cz_lt _ _).2 k2)]
    by_cases e1 : x ≤ y
    · by_cases e2 : y ≤ z
      · rw [dT ((cz_le x y).2 e1), dT ((cz_le y z).2 e2), dF (fun h => by have := (cz_gt x z).1 h; omega)]
        rfl
      · rw [dT ((cz_le x y).2 e1), dF (fun h => e2 ((cz_le y z).1 h))]
        rfl
    · rw [dF (fun h => e1 ((cz_le x y).1 h))]
      rfl
  · obtain ⟨r, g1, g2, g3, g4, g5, g6⟩ := fin b s
    obtain ⟨k1, k2⟩ := key x hvs.symm (by omega)
    have w1 : ¬ sg0.cmz x 0 < 0 := fun h => e0 ((cz_lt x 0).1 h)
    rw [g2, g1, g3, g4, g5, g6]
    simp only [w1, decide_false]
    rw [dT ((cz_ge _ _).2 k1), dT ((cz_lt _ _).2 k2)]
    by_cases e1 : x ≤ y
    · by_cases e2 : y ≤ z
      · rw [dT ((cz_le x y).2 e1), dT ((cz_le y z).2 e2), dF (fun h => by have := (cz_gt x z).1 h; omega)]
        rfl
      · rw [dT ((cz_le x y).2 e1), dF (fun h => e2 ((cz_le y z).1 h))]
        rfl
    · rw [dF (fun h => e1 ((cz_le x y).1 h))]
      rfl
theorem order_walk (b : Bool) (s : ByteArray) (c : Bool) (t : ByteArray) (d : Bool) (u : ByteArray) (W : World) : Calls Try.prog 7 #[.agg #[.bool b, .string s], .agg #[.bool c, .string t], .agg #[.bool d, .string u]] W fun e w' => e = .returned (.bool true) ∧ Below W.heap.size W w' :=
  law_walk COr_ok (LL_ord_ok LOk.none).ok (by kernel_rfl) (order_true b c d s t u) W ⟨_, _, rfl, arg_int _ _ b s, _, _, rfl, arg_int _ _ c t, _, _, rfl, arg_int _ _ d u, rfl⟩
end
end Go.Proofs.Ytlpfnbopmigefaa.L
