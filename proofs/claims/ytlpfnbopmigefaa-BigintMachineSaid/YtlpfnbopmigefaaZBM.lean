/- BigintMachine holds. -/
import Derived.Test.YtlpfnbopmigefaaZME
import Derived.Test.YtlpfnbopmigefaaZBD
set_option linter.unusedVariables false
set_option linter.unusedSimpArgs false

/- BigintMachine holds. -/
set_option linter.unusedVariables false
set_option linter.unusedSimpArgs false
namespace Go.Proofs.Ytlpfnbopmigefaa.L
open Go Go.V Go.RowKit Go.Proofs.Ytlpfnbopmigefaa.Sp Go.Proofs.Ytlpfnbopmigefaa.F
open Go.Proofs (Try.prog)
noncomputable section
def CMS (S : Sg) (X : Xg) : FuncId → List AV → Option (Bool × AV) := addC 16 (tAdd S) (addC 20 (tMul S) (addC 18 (tSub S) (addC 28 (tCompare S) (addC 29 (tOf S) (addC 33 (tSmall S X) (addC 22 (tDiv S X) (addC 15 tAwake noC)))))))
theorem CMS_ok : Meets Try.prog (CMS sg0 xg0) := ((((((((meets_none _).add eAwake).add eDiv).add eSmall).add eOf).add eCompare).add eSub).add eMul).add eAdd
def EMS (S : Sg) (X : Xg) : Env := ⟨CMS S X, fun _ => false, noL⟩
theorem machine_call (S : Sg) (X : Xg) (x y : Int) : callA Try.prog (EMS S X) 10 10 10 [.val (.int .i32 x), .val (.int .i32 y)] =
    (bif inR IntKind.i64 x then (bif inR IntKind.i64 y then (bif inI x then (bif inI y then (bif S.ok (S.ms x) then (bif !X.sb (S.val (S.ng x) (S.ms x)) then some (.val (.bool false)) else (bif !decide (X.sv (S.val (S.ng x) (S.ms x)) = x) then some (.val (.bool false)) else (bif S.ok (S.ms x) && S.ok (S.ms y) then (bif inR IntKind.i64 (x + y) then (bif inI (x + y) then (bif bif true then !(S.ng (S.val (S.ng x) (S.ms x) + S.val (S.ng y) (S.ms y)) == S.ng (x + y) && (strEq (S.ms (S.val (S.ng x) (S.ms x) + S.val (S.ng y) (S.ms y))) (S.ms (x + y)) && true)) else S.ng (S.val (S.ng x) (S.ms x) + S.val (S.ng y) (S.ms y)) == S.ng (x + y) && (strEq (S.ms (S.val (S.ng x) (S.ms x) + S.val (S.ng y) (S.ms y))) (S.ms (x + y)) && true) then some (.val (.bool false)) else (bif S.ok (S.ms x) && S.ok (S.ms y) then (bif inR IntKind.i64 (x - y) then (bif inI (x - y) then (bif bif true then !(S.ng (S.val (S.ng x) (S.ms x) - S.val (S.ng y) (S.ms y)) == S.ng (x - y) && (strEq (S.ms (S.val (S.ng x) (S.ms x) - S.val (S.ng y) (S.ms y))) (S.ms (x - y)) && true)) else S.ng (S.val (S.ng x) (S.ms x) - S.val (S.ng y) (S.ms y)) == S.ng (x - y) && (strEq (S.ms (S.val (S.ng x) (S.ms x) - S.val (S.ng y) (S.ms y))) (S.ms (x - y)) && true) then some (.val (.bool false)) else (bif S.ok (S.ms x) && S.ok (S.ms y) then (bif inR IntKind.i64 (x * y) then (bif inI (x * y) then (bif bif true then !(S.ng (S.val (S.ng x) (S.ms x) * S.val (S.ng y) (S.ms y)) == S.ng (x * y) && (strEq (S.ms (S.val (S.ng x) (S.ms x) * S.val (S.ng y) (S.ms y))) (S.ms (x * y)) && true)) else S.ng (S.val (S.ng x) (S.ms x) * S.val (S.ng y) (S.ms y)) == S.ng (x * y) && (strEq (S.ms (S.val (S.ng x) (S.ms x) * S.val (S.ng y) (S.ms y))) (S.ms (x * y)) && true) then some (.val (.bool false)) else (bif S.ok (S.ms x) && S.ok (S.ms y) then (bif bif true then !decide (S.cmz (S.val (S.ng x) (S.ms x)) (S.val (S.ng y) (S.ms y)) < (0 : Int)) == decide (x < y) else decide (S.cmz (S.val (S.ng x) (S.ms x)) (S.val (S.ng y) (S.ms y)) < (0 : Int)) == decide (x < y) then some (.val (.bool false)) else (bif S.ok (S.ms x) && S.ok (S.ms y) then (bif bif true then !decide ((0 : Int) < S.cmz (S.val (S.ng x) (S.ms x)) (S.val (S.ng y) (S.ms y))) == decide (y < x) else decide ((0 : Int) < S.cmz (S.val (S.ng x) (S.ms x)) (S.val (S.ng y) (S.ms y))) == decide (y < x) then some (.val (.bool false)) else (bif decide (y = (0 : Int)) then (bif S.ok (S.ms x) && S.ok (S.ms y) then (bif decide (X.de (S.val (S.ng y) (S.ms y)) = (10 : Int)) then some (.val (.bool true)) else some (.val (.bool false))) else none) else (bif decide (y = (0 : Int)) then none else (bif inR IntKind.i64 (x.tdiv y) then (bif decide (y = (0 : Int)) then none else (bif !decide (x.tmod y = (0 : Int)) then (bif bif true then !decide (x.tmod y < (0 : Int)) == decide (y < (0 : Int)) else decide (x.tmod y < (0 : Int)) == decide (y < (0 : Int)) then (bif inR IntKind.i64 (x.tdiv y - (1 : Int)) then (bif inR IntKind.i64 (x.tmod y + y) then (bif S.ok (S.ms x) && S.ok (S.ms y) then (bif decide (X.de (S.val (S.ng y) (S.ms y)) = (0 : Int)) then (bif inI (x.tdiv y - (1 : Int)) then (bif bif false then !(S.ng (X.dq (S.val (S.ng x) (S.ms x)) (S.val (S.ng y) (S.ms y))) == S.ng (x.tdiv y - (1 : Int)) && (strEq (S.ms (X.dq (S.val (S.ng x) (S.ms x)) (S.val (S.ng y) (S.ms y)))) (S.ms (x.tdiv y - (1 : Int))) && true)) else S.ng (X.dq (S.val (S.ng x) (S.ms x)) (S.val (S.ng y) (S.ms y))) == S.ng (x.tdiv y - (1 : Int)) && (strEq (S.ms (X.dq (S.val (S.ng x) (S.ms x)) (S.val (S.ng y) (S.ms y)))) (S.ms (x.tdiv y - (1 : Int))) && true) then (bif inI (x.tmod y + y) then (bif bif false then !(S.ng (X.dr (S.val (S.ng x) (S.ms x)) (S.val (S.ng y) (S.ms y))) == S.ng (x.tmod y + y) && (strEq (S.ms (X.dr (S.val (S.ng x) (S.ms x)) (S.val (S.ng y) (S.ms y)))) (S.ms (x.tmod y + y)) && true)) else S.ng (X.dr (S.val (S.ng x) (S.ms x)) (S.val (S.ng y) (S.ms y))) == S.ng (x.tmod y + y) && (strEq (S.ms (X.dr (S.val (S.ng x) (S.ms x)) (S.val (S.ng y) (S.ms y)))) (S.ms (x.tmod y + y)) && true) then some (.val (.bool true)) else some (.val (.bool false))) else none) else some (.val (.bool false))) else none) else some (.val (.bool false))) else none) else none) else none) else (bif S.ok (S.ms x) && S.ok (S.ms y) then (bif decide (X.de (S.val (S.ng y) (S.ms y)) = (0 : Int)) then (bif inI (x.tdiv y) then (bif bif false then !(S.ng (X.dq (S.val (S.ng x) (S.ms x)) (S.val (S.ng y) (S.ms y))) == S.ng (x.tdiv y) && (strEq (S.ms (X.dq (S.val (S.ng x) (S.ms x)) (S.val (S.ng y) (S.ms y)))) (S.ms (x.tdiv y)) && true)) else S.ng (X.dq (S.val (S.ng x) (S.ms x)) (S.val (S.ng y) (S.ms y))) == S.ng (x.tdiv y) && (strEq (S.ms (X.dq (S.val (S.ng x) (S.ms x)) (S.val (S.ng y) (S.ms y)))) (S.ms (x.tdiv y)) && true) then (bif inI (x.tmod y) then (bif bif false then !(S.ng (X.dr (S.val (S.ng x) (S.ms x)) (S.val (S.ng y) (S.ms y))) == S.ng (x.tmod y) && (strEq (S.ms (X.dr (S.val (S.ng x) (S.ms x)) (S.val (S.ng y) (S.ms y)))) (S.ms (x.tmod y)) && true)) else S.ng (X.dr (S.val (S.ng x) (S.ms x)) (S.val (S.ng y) (S.ms y))) == S.ng (x.tmod y) && (strEq (S.ms (X.dr (S.val (S.ng x) (S.ms x)) (S.val (S.ng y) (S.ms y)))) (S.ms (x.tmod y)) && true) then some (.val (.bool true)) else some (.val (.bool false))) else none) else some (.val (.bool false))) else none) else some (.val (.bool false))) else none)) else (bif S.ok (S.ms x) && S.ok (S.ms y) then (bif decide (X.de (S.val (S.ng y) (S.ms y)) = (0 : Int)) then (bif inI (x.tdiv y) then (bif bif false then !(S.ng (X.dq (S.val (S.ng x) (S.ms x)) (S.val (S.ng y) (S.ms y))) == S.ng (x.tdiv y) && (strEq (S.ms (X.dq (S.val (S.ng x) (S.ms x)) (S.val (S.ng y) (S.ms y)))) (S.ms (x.tdiv y)) && true)) else S.ng (X.dq (S.val (S.ng x) (S.ms x)) (S.val (S.ng y) (S.ms y))) == S.ng (x.tdiv y) && (strEq (S.ms (X.dq (S.val (S.ng x) (S.ms x)) (S.val (S.ng y) (S.ms y)))) (S.ms (x.tdiv y)) && true) then (bif inI (x.tmod y) then (bif bif false then !(S.ng (X.dr (S.val (S.ng x) (S.ms x)) (S.val (S.ng y) (S.ms y))) == S.ng (x.tmod y) && (strEq (S.ms (X.dr (S.val (S.ng x) (S.ms x)) (S.val (S.ng y) (S.ms y)))) (S.ms (x.tmod y)) && true)) else S.ng (X.dr (S.val (S.ng x) (S.ms x)) (S.val (S.ng y) (S.ms y))) == S.ng (x.tmod y) && (strEq (S.ms (X.dr (S.val (S.ng x) (S.ms x)) (S.val (S.ng y) (S.ms y)))) (S.ms (x.tmod y)) && true) then some (.val (.bool true)) else some (.val (.bool false))) else none) else some (.val (.bool false))) else none) else some (.val (.bool false))) else none))) else none)))) else none)) else none)) else none) else none) else none)) else none) else none) else none)) else none) else none) else none))) else none) else none) else none) else none) else none) := by kernel_rfl
theorem beq_dec {p q : Prop} [Decidable p] [Decidable q] (h : p ↔ q) : (decide p == decide q) = true := by
  rw [decide_eq_decide.2 h]; exact beq_self_eq_true _
theorem bne_dec {p q : Prop} [Decidable p] [Decidable q] (h : ¬ (p ↔ q)) : (decide p == decide q) = false := by
  by_cases hp : p <;> by_cases hq : q
  · exact absurd ⟨fun _ => hq, fun _ => hp⟩ h
  · rw [decide_eq_true hp, decide_eq_false hq]; rfl
  · rw [decide_eq_false hp, decide_eq_true hq]; rfl
  · exact absurd ⟨fun k => absurd k hp, fun k => absurd k hq⟩ h
theorem ok_i {z : Int} (h : -9223372036854775808 ≤ z ∧ z ≤ 9223372036854775807) : sg0.ok (sg0.ms z) = true := by
  refine ok_ms (Nat.le_trans (bs_le (m := 8) ?_) (by decide))
  show _ < 18446744073709551616
  omega
theorem inI_in {z : Int} (h : -9223372036854775808 ≤ z ∧ z ≤ 9223372036854775807) : inI z = true := by
  unfold inI
  rw [decide_eq_true h.1, decide_eq_true h.2]; rfl
theorem t_quot (x y : Int) (hy : y ≠ 0) : ∃ q r : Int, x.tdiv y = q ∧ x.tmod y = r ∧ q.natAbs ≤ x.natAbs ∧ r.natAbs < y.natAbs ∧
    ((r ≠ 0 ∧ ¬ (r < 0 ↔ y < 0) ∧ zq x y = q - 1 ∧ zr x y = r + y) ∨ ((r = 0 ∨ (r < 0 ↔ y < 0)) ∧ zq x y = q ∧ zr x y = r)) := by
  have h1 := Int.tmod_add_mul_tdiv x y
  have h2 : (x.tdiv y).natAbs ≤ x.natAbs := by rw [Int.natAbs_tdiv]; exact Nat.div_le_self _ _
  have h3 : (x.tmod y).natAbs < y.natAbs := by rw [Int.natAbs_tmod]; exact Nat.mod_lt _ (by omega)
  refine ⟨x.tdiv y, x.tmod y, rfl, rfl, h2, h3, ?_⟩
  generalize x.tdiv y = q at *
  generalize x.tmod y = r at *
  by_cases hc : r ≠ 0 ∧ ¬ (r < 0 ↔ y < 0)
  · refine Or.inl ⟨hc.1, hc.2, ?_⟩
    obtain ⟨c1, c2⟩ := hc
    apply floor_of
    · rw [Int.mul_sub, Int.mul_one]; omega
    · omega
  · refine Or.inr ⟨?_, ?_⟩
    · rcases Classical.em (r = 0) with h | h
      · exact Or.inl h
      · exact Or.inr (Classical.byContradiction fun k => hc ⟨h, k⟩)
    · apply floor_of
      · exact h1
      · omega
theorem i32_prod {x y : Int} (hx : x.natAbs ≤ 2147483648) (hy : y.natAbs ≤ 2147483648) : (x * y).natAbs ≤ 4611686018427387904 := by
  rw [Int.natAbs_mul]
  exact Nat.mul_le_mul hx hy
theorem machine_true (x y : Int) (hx : x.natAbs ≤ 2147483648) (hy : y.natAbs ≤ 2147483648) : callA Try.prog (EMS sg0 xg0) 10 10 10 [.val (.int .i32 x), .val (.int .i32 y)] = some (.val (.bool true)) := by
  rw [machine_call]
  have hp := i32_prod hx hy
  simp only [val_ms, x_dq, x_dr]
  rw [i64T (show -9223372036854775808 ≤ x ∧ x ≤ 9223372036854775807 by omega), i64T (show -9223372036854775808 ≤ y ∧ y ≤ 9223372036854775807 by omega), inI_in (show -9223372036854775808 ≤ x ∧ x ≤ 9223372036854775807 by omega), inI_in (show -9223372036854775808 ≤ y ∧ y ≤ 9223372036854775807 by omega),
    ok_i (show -9223372036854775808 ≤ x ∧ x ≤ 9223372036854775807 by omega), ok_i (show -9223372036854775808 ≤ y ∧ y ≤ 9223372036854775807 by omega),
    show xg0.sb x = true from decide_eq_true (by omega), dT (show xg0.sv x = x from if_pos (by omega)),
    i64T (show -9223372036854775808 ≤ x + y ∧ x + y ≤ 9223372036854775807 by omega), inI_in (show -9223372036854775808 ≤ x + y ∧ x + y ≤ 9223372036854775807 by omega), eqI (rfl : x + y = x + y),
    i64T (show -9223372036854775808 ≤ x - y ∧ x - y ≤ 9223372036854775807 by omega), inI_in (show -9223372036854775808 ≤ x - y ∧ x - y ≤ 9223372036854775807 by omega), eqI (rfl : x - y = x - y),
    i64T (show -9223372036854775808 ≤ x * y ∧ x * y ≤ 9223372036854775807 by omega), inI_in (show -9223372036854775808 ≤ x * y ∧ x * y ≤ 9223372036854775807 by omega), eqI (rfl : x * y = x * y),
    beq_dec (cz_lt x y), beq_dec (cz_gt x y)]
  by_cases h0 : y = 0
  · rw [dT h0, dT (show xg0.de y = 10 by rw [h0]; rfl)]
    rfl
  · obtain ⟨q, r, e1, e2, g1, g2, g3⟩ := t_quot x y h0
    rw [dF h0, dT (show xg0.de y = 0 from ezn h0), e1, e2, i64T (show -9223372036854775808 ≤ q ∧ q ≤ 9223372036854775807 by omega), inI_in (show -9223372036854775808 ≤ q ∧ q ≤ 9223372036854775807 by omega), inI_in (show -9223372036854775808 ≤ r ∧ r ≤ 9223372036854775807 by omega),
      i64T (show -9223372036854775808 ≤ q - 1 ∧ q - 1 ≤ 9223372036854775807 by omega), inI_in (show -9223372036854775808 ≤ q - 1 ∧ q - 1 ≤ 9223372036854775807 by omega),
      i64T (show -9223372036854775808 ≤ r + y ∧ r + y ≤ 9223372036854775807 by omega), inI_in (show -9223372036854775808 ≤ r + y ∧ r + y ≤ 9223372036854775807 by omega)]
    rcases g3 with ⟨c1, c2, c3, c4⟩ | ⟨c1, c3, c4⟩
    · rw [dF c1, bne_dec c2, eqI c3, eqI c4]
      rfl
    · rw [eqI c3, eqI c4]
      rcases c1 with c1 | c1
      · rw [dT c1]
        rfl
      · rw [beq_dec c1]
        cases decide (r = 0) <;> rfl
theorem machine_walk (x : Int) (hx : (Lit.int .i32 x).wf = true) (y : Int) (hy : (Lit.int .i32 y).wf = true) (W : World) : Calls Try.prog 10 #[.int .i32 x, .int .i32 y] W fun e w' => e = .returned (.bool true) ∧ Below W.heap.size W w' := by
  have k : ∀ z : Int, (Lit.int .i32 z).wf = true → z.natAbs ≤ 2147483648 := by
    intro z h
    unfold Lit.wf at h
    simp only [Bool.and_eq_true, decide_eq_true_eq] at h
    have h1 : (-2147483648 : Int) ≤ z := h.1
    have h2 : z ≤ 2147483647 := h.2
    omega
  exact law_walk CMS_ok loops_none (by kernel_rfl) (machine_true x y (k x hx) (k y hy)) W ⟨_, _, rfl, rfl, _, _, rfl, rfl, rfl⟩
end
end Go.Proofs.Ytlpfnbopmigefaa.L
