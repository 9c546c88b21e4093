/- What is told of the other functions of the layer, as variables. -/
import Derived.Test.YtlpfnbopmigefaaZL
import Derived.Test.YtlpfnbopmigefaaZA3
import Derived.Test.YtlpfnbopmigefaaZNB
set_option linter.unusedVariables false
set_option linter.unusedSimpArgs false

/- What is told of the other functions of the layer, as variables. -/
set_option linter.unusedVariables false
namespace Go.Proofs.Ytlpfnbopmigefaa.L
open Go Go.V Go.RowKit Go.Proofs.Ytlpfnbopmigefaa.Sp
open Go.Proofs (Try.prog)
noncomputable section
structure Xg where
  sv : Int → Int
  sb : Int → Bool
  dq : Int → Int → Int
  dr : Int → Int → Int
  de : Int → Int
  gcd : Int → Int → Int
  rt : Int → Int
  rx : Int → Bool
  re : Int → Int
  pr : Int → ByteArray
  pv : ByteArray → Int
  pe : ByteArray → Int
  ok2 : ByteArray → Bool
  okp : ByteArray → Bool
def tSmall (S : Sg) (X : Xg) (args : List AV) : Option (Bool × AV) := match args with | [.agg [.val (.bool b), .val (.string s)]] => some (S.ok s, .tup [.val (.int .i64 (X.sv (S.val b s))), .val (.bool (X.sb (S.val b s)))]) | _ => none
def tDiv (S : Sg) (X : Xg) (args : List AV) : Option (Bool × AV) := match args with | [.agg [.val (.bool b), .val (.string s)], .agg [.val (.bool c), .val (.string t)]] => some (S.ok s && S.ok t, .tup [S.int (X.dq (S.val b s) (S.val c t)), S.int (X.dr (S.val b s) (S.val c t)), .val (.int .i64 (X.de (S.val c t)))]) | _ => none
def tGcd (S : Sg) (X : Xg) (args : List AV) : Option (Bool × AV) := match args with | [.agg [.val (.bool b), .val (.string s)], .agg [.val (.bool c), .val (.string t)]] => some (S.ok s && S.ok t, S.int (X.gcd (S.val b s) (S.val c t))) | _ => none
def tRoot (S : Sg) (X : Xg) (args : List AV) : Option (Bool × AV) := match args with | [.agg [.val (.bool b), .val (.string s)]] => some (X.ok2 s, .tup [S.int (X.rt (S.val b s)), .val (.bool (X.rx (S.val b s))), .val (.int .i64 (X.re (S.val b s)))]) | _ => none
def tPrint (S : Sg) (X : Xg) (args : List AV) : Option (Bool × AV) := match args with | [.agg [.val (.bool b), .val (.string s)]] => some (X.ok2 s, .val (.string (X.pr (S.val b s)))) | _ => none
def tParse (S : Sg) (X : Xg) (args : List AV) : Option (Bool × AV) := match args with | [.val (.string s)] => some (X.okp s, .tup [S.int (X.pv s), .val (.int .i64 (X.pe s))]) | _ => none
/-- All of the layer. -/
def CAll (S : Sg) (X : Xg) : FuncId → List AV → Option (Bool × AV) :=
  addC 16 (tAdd S) (addC 20 (tMul S) (addC 18 (tSub S) (addC 30 (tNeg S) (addC 28 (tCompare S) (addC 32 (tCheck S) (addC 29 (tOf S) (addC 31 (tBits S)
    (addC 33 (tSmall S X) (addC 22 (tDiv S X) (addC 26 (tGcd S X) (addC 24 (tRoot S X) (addC 42 (tPrint S X) (addC 40 (tParse S X)
    (addC 15 tAwake noC))))))))))))))
def CRef (S : Sg) (X : Xg) : FuncId → List AV → Option (Bool × AV) :=
  addC 17 (tAdd S) (addC 21 (tMul S) (addC 19 (tSub S) (addC 37 (tNeg S) (addC 38 (tCompare S) (addC 36 (tCheck S) (addC 35 (tOf S) (addC 39 (tBits S)
    (addC 34 (tSmall S X) (addC 23 (tDiv S X) (addC 27 (tGcd S X) (addC 25 (tRoot S X) (addC 43 (tPrint S X) (addC 41 (tParse S X)
    (CAll S X))))))))))))))
def EAll (S : Sg) (X : Xg) : Env := ⟨CAll S X, fun _ => false, noL⟩
def ERef (S : Sg) (X : Xg) : Env := ⟨CRef S X, fun _ => false, noL⟩
end
end Go.Proofs.Ytlpfnbopmigefaa.L

/- Of the reference: Check as an entry; Small's tree. -/
set_option linter.unusedVariables false
set_option linter.unusedSimpArgs false
namespace Go.Proofs.Ytlpfnbopmigefaa.L
open Go Go.V Go.RowKit Go.Proofs.Ytlpfnbopmigefaa.Sp Go.Proofs.Ytlpfnbopmigefaa.F Go.Proofs.YtlpfnbopmigefaaW.PrintWords
open Go.Proofs (Try.prog)
noncomputable section
theorem eRCheck : Entry Try.prog 36 (tCheck sg0) := by
  refine entry_of (E := ⟨addC 52 (tCanon sg0) noC, Kall, noL⟩) (u := 10) (d := 10) ((meets_none _).add eCanon) loops_none mixed (by kernel_rfl) (fun args r h => ?_)
  unfold tCheck at h
  split at h
  · rename_i b s
    simp only [Option.some.injEq, Prod.mk.injEq] at h
    obtain ⟨h1, rfl⟩ := h
    have hcall := rcheck_call sg0 b s
    have hm : sg0.ms (sg0.val b s) = magOf (vS s) := by
      show magOf (Sp.val b s).natAbs = _
      rw [natAbs_val]
    rw [hm, strEq_iff, ng_eq] at hcall
    rw [hcall]
    show _ = some (AV.val (.int .i64 (L.chk b s)))
    unfold L.chk
    by_cases h2 : s = magOf (vS s)
    · rw [dT h2, if_pos h2.symm]
      have hemp : s.toList = [] ↔ vS s = 0 := by
        have k := magOf_nil (vS s)
        rw [← h2, strEq_nil] at k
        exact decide_eq_decide.1 k
      cases b
      · rw [if_neg (fun h => Bool.noConfusion h.1), dF (show ¬ sg0.val false s < 0 by show ¬ ((vS s : Nat) : Int) < 0; omega)]
        rfl
      · by_cases h3 : vS s = 0
        · rw [if_pos ⟨rfl, hemp.2 h3⟩, dF (show ¬ sg0.val true s < 0 by show ¬ -((vS s : Nat) : Int) < 0; omega)]
          rfl
        · rw [if_neg (fun h => h3 (hemp.1 h.2)), dT (show sg0.val true s < 0 by show -((vS s : Nat) : Int) < 0; omega)]
          rfl
    · rw [dF h2, if_neg (fun h => h2 h.symm)]
      by_cases h4 : sg0.val b s < 0
      · rw [dT h4]; cases b <;> rfl
      · rw [dF h4]; cases b <;> rfl
  · cases h
def CRs (S : Sg) : FuncId → List AV → Option (Bool × AV) := addC 52 (tCanon S) (addC 53 (tRValue S) (addC 35 (tOf S) noC))
theorem CRs_ok : Meets Try.prog (CRs sg0) := (((meets_none _).add eROf).add eRValue).add eCanon
theorem rsmallI_call (S : Sg) (b : Bool) (s : ByteArray) : callA Try.prog ⟨CRs S, Kall, noL⟩ 10 10 34 [.agg [.val (.bool b), .val (.string s)]] =
    (bif decide ((↑(S.ms (S.val b s)).size : Int) < (8 : Int)) then (bif decide ((S.ms (S.val b s)).size ≤ (8 : Nat)) && decide (S.vs (S.ms (S.val b s)) < (9223372036854775808 : Nat)) then some (.tup [(.val (.int .i64 (S.val (S.ng (S.val b s)) (S.ms (S.val b s))))), (.val (.bool true))]) else none) else (bif decide ((8 : Int) < (↑(S.ms (S.val b s)).size : Int)) then some (.tup [(.val (.int .i64 0)), (.val (.bool false))]) else (bif decide ((0 : Int) < (↑(S.ms (S.val b s)).size : Int)) then (bif decide (byteAt (S.ms (S.val b s)) (0 : Nat) < (128 : Int)) then (bif decide ((S.ms (S.val b s)).size ≤ (8 : Nat)) && decide (S.vs (S.ms (S.val b s)) < (9223372036854775808 : Nat)) then some (.tup [(.val (.int .i64 (S.val (S.ng (S.val b s)) (S.ms (S.val b s))))), (.val (.bool true))]) else none) else (bif bif false then !(S.ng (S.val b s) == S.ng (-9223372036854775808 : Int) && (strEq (S.ms (S.val b s)) (S.ms (-9223372036854775808 : Int)) && true)) else S.ng (S.val b s) == S.ng (-9223372036854775808 : Int) && (strEq (S.ms (S.val b s)) (S.ms (-9223372036854775808 : Int)) && true) then some (.tup [(.val (.int .i64 (-9223372036854775808))), (.val (.bool true))]) else some (.tup [(.val (.int .i64 0)), (.val (.bool false))]))) else none))) := by kernel_rfl
end
end Go.Proofs.Ytlpfnbopmigefaa.L

/- Of the reference: Small as an entry. -/
set_option linter.unusedVariables false
set_option linter.unusedSimpArgs false
namespace Go.Proofs.Ytlpfnbopmigefaa.L
open Go Go.V Go.RowKit Go.Proofs.Ytlpfnbopmigefaa.Sp Go.Proofs.Ytlpfnbopmigefaa.F Go.Proofs.YtlpfnbopmigefaaW.PrintWords
open Go.Proofs (Try.prog)
noncomputable section
theorem eqN {x y : Int} (h : x ≠ y) : (sg0.ng x == sg0.ng y && (strEq (sg0.ms x) (sg0.ms y) && true)) = false := by
  cases h1 : (sg0.ng x == sg0.ng y && (strEq (sg0.ms x) (sg0.ms y) && true)) with
  | false => rfl
  | true =>
    exfalso
    rw [Bool.and_eq_true, Bool.and_true, beq_iff_eq, strEq_iff] at h1
    have h2 : sg0.ms x = sg0.ms y := of_decide_eq_true h1.2
    apply h
    rw [← val_ms x, ← val_ms y, h1.1, h2]
theorem eRSmallX (X : Xg) (h1 : X.sv = fun z => if -9223372036854775808 ≤ z ∧ z < 9223372036854775808 then z else 0) (h2 : X.sb = fun z => decide (-9223372036854775808 ≤ z ∧ z < 9223372036854775808)) : Entry Try.prog 34 (tSmall sg0 X) := by
  refine entry_of (E := ⟨CRs sg0, Kall, noL⟩) (u := 10) (d := 10) CRs_ok loops_none mixed (by kernel_rfl) (fun args r h => ?_)
  unfold tSmall at h
  split at h
  · rename_i b s
    simp only [Option.some.injEq, Prod.mk.injEq] at h
    obtain ⟨_, rfl⟩ := h
    have hcall := rsmallI_call sg0 b s
    generalize sg0.val b s = z at *
    have hs : X.sv z = if -9223372036854775808 ≤ z ∧ z < 9223372036854775808 then z else 0 := by rw [h1]
    have hb : X.sb z = decide (-9223372036854775808 ≤ z ∧ z < 9223372036854775808) := by rw [h2]
    rw [hs, hb]
    have hdig : bs z.natAbs = 8 → byteAt (sg0.ms z) 0 = ((z.natAbs / 256 ^ 7 % 256 : Nat) : Int) := by
      intro h8
      have k := digit_at (sg0.ms z) 7 (by rw [size_ms]; omega)
      rw [size_ms, h8] at k
      have e : vS (sg0.ms z) = z.natAbs := vs_ms z
      rw [e] at k
      exact k
    have hbig : 8 < bs z.natAbs → 18446744073709551616 ≤ z.natAbs := by
      intro h8
      rcases Nat.lt_or_ge z.natAbs 18446744073709551616 with h9 | h9
      · have := bs_le (n := z.natAbs) (m := 8) h9; omega
      · exact h9
    have hsml : bs z.natAbs ≤ 8 → z.natAbs < 18446744073709551616 := fun h8 => Nat.lt_of_lt_of_le (bs_lt z.natAbs) (show 256 ^ bs z.natAbs ≤ 256 ^ 8 from Nat.pow_le_pow_right (by decide) h8)
    simp only [vs_ms, size_ms, val_ms] at hcall
    rw [hcall]
    clear hcall
    by_cases c1 : (bs z.natAbs : Int) < 8
    · have k := small7 (show bs z.natAbs < 8 by omega)
      rw [dT c1, dT (show bs z.natAbs ≤ 8 by omega), dT (show z.natAbs < 9223372036854775808 by omega), if_pos (by omega), dT (show -9223372036854775808 ≤ z ∧ z < 9223372036854775808 by omega)]
      rfl
    · rw [dF c1]
      by_cases c2 : (8 : Int) < (bs z.natAbs : Int)
      · have k := hbig (by omega)
        rw [dT c2, if_neg (by omega), dF (show ¬ (-9223372036854775808 ≤ z ∧ z < 9223372036854775808) by omega)]
        rfl
      · have k := hsml (by omega)
        have kd := hdig (by omega)
        have e7 : (256 : Nat) ^ 7 = 72057594037927936 := rfl
        rw [e7] at kd
        rw [dF c2, dT (show (0 : Int) < (bs z.natAbs : Int) by omega), kd]
        by_cases c3 : ((z.natAbs / 72057594037927936 % 256 : Nat) : Int) < 128
        · rw [dT c3, dT (show bs z.natAbs ≤ 8 by omega), dT (show z.natAbs < 9223372036854775808 by omega), if_pos (by omega), dT (show -9223372036854775808 ≤ z ∧ z < 9223372036854775808 by omega)]
          rfl
        · rw [dF c3]
          by_cases c4 : z = -9223372036854775808
          · rw [eqI c4, if_pos (by omega), dT (show -9223372036854775808 ≤ z ∧ z < 9223372036854775808 by omega), c4]
            rfl
          · rw [eqN c4, if_neg (by omega), dF (show ¬ (-9223372036854775808 ≤ z ∧ z < 9223372036854775808) by omega)]
            rfl
  · cases h
end
end Go.Proofs.Ytlpfnbopmigefaa.L

/- Of the reference: Bits, told. -/
set_option linter.unusedVariables false
set_option linter.unusedSimpArgs false
namespace Go.Proofs.Ytlpfnbopmigefaa.L
open Go Go.V Go.RowKit Go.Proofs.Ytlpfnbopmigefaa.Sp Go.Proofs.Ytlpfnbopmigefaa.F Go.Proofs.YtlpfnbopmigefaaW.PrintWords
open Go.Proofs (Try.prog)
noncomputable section
abbrev p_rbits : List Bool := [false, true, false, true, true, true, true]
def sh_rbits (n : Int) (v : Int) : List AV := slots 25 [(4, .val (.int .i64 n)), (5, .val (.int .i64 v))]
def hp_rbits (n : Int) (v : Int) : Hp := []
theorem body_rbits : subC Try.prog 39 p_rbits = some (.loop (lb 39 p_rbits)) := by kernel_rfl
theorem code_rbits : subC Try.prog 39 (false :: p_rbits) = some (lb 39 p_rbits) := by kernel_rfl
theorem round_rbits  (n : Int) (v : Int) : roundA Try.prog EL0 39 [4, 5] (lb 39 p_rbits) (false :: p_rbits) (sh_rbits n v) (hp_rbits n v) =
    (bif decide ((0 : Int) < v) then (bif inR IntKind.i64 (n + (1 : Int)) then (bif inR IntKind.i64 (v.tdiv (2 : Int)) then some (.normal, slots 25 [(4, (.val (.int .i64 (n + (1 : Int))))), (5, (.val (.int .i64 (v.tdiv (2 : Int)))))], []) else none) else none) else some ((.exit 0), slots 25 [(4, (.val (.int .i64 n))), (5, (.val (.int .i64 v)))], [])) := by kernel_rfl
theorem step_rbits {n : Int} {v : Int} {e : Ex} {T : List AV} {H : Hp} (h : roundA Try.prog EL0 39 [4, 5] (lb 39 p_rbits) (false :: p_rbits) (sh_rbits n v) (hp_rbits n v) = some (e, T, H)) : V.Ends Try.prog false 0 0 (lb 39 p_rbits) (sh_rbits n v) (hp_rbits n v) e T H :=
  round_ends (meets_none _) loops_none mixed code_rbits h
def pre_rbits (n v : Int) : Prop := 0 ≤ n ∧ n ≤ 281474976710656 ∧ 0 ≤ v ∧ v < 256
def post_rbits (n v : Int) (r : Int × Int) : Prop := r.1 = n + (blen v.toNat : Int)
theorem len_half {v l : Nat} (hv : v ≠ 0) (h : IsLen (v / 2) l) : IsLen v (l + 1) := by
  refine ⟨?_, fun _ => ?_⟩
  · have := h.1
    rw [Nat.pow_succ]; omega
  · rw [Nat.add_sub_cancel]
    rcases Nat.eq_zero_or_pos l with e | e
    · rw [e]; show 1 ≤ v; omega
    · have h2 := h.2 e
      have h3 : 2 ^ l = 2 ^ (l - 1) * 2 := by rw [← Nat.pow_succ, Nat.succ_eq_add_one, Nat.sub_add_cancel e]
      omega
theorem blen_half {v : Nat} (hv : v ≠ 0) : blen v = blen (v / 2) + 1 := (blen_is v).uniq (len_half hv (blen_is (v / 2)))
theorem rbits_go (k : Nat) : ∀ n v : Nat, v = k → v < 256 → n + v ≤ 281474976710912 → ∃ r : Int × Int, LoopTo Try.prog (lb 39 p_rbits) (sh_rbits n v) (hp_rbits n v) (.exit 0) (sh_rbits r.1 r.2) (hp_rbits r.1 r.2) ∧ r.1 = (n : Int) + (blen v : Int) := by
  induction k using Nat.strongRecOn with
  | _ k ih =>
    intro n v hv hb hn
    by_cases h0 : v = 0
    · subst h0
      refine ⟨((n : Int), ((0 : Nat) : Int)), .last (step_rbits ?_) (by intro h; cases h), ?_⟩
      · rw [round_rbits, dF (show ¬ (0 : Int) < ((0 : Nat) : Int) by decide)]; rfl
      · rw [show blen 0 = 0 from (blen_is 0).uniq ⟨by decide, fun h => absurd h (by decide)⟩]; show (n : Int) = n + 0; omega
    · obtain ⟨r, h1, h2⟩ := ih (v / 2) (by omega) (n + 1) (v / 2) rfl (by omega) (by omega)
      refine ⟨r, .more (step_rbits ?_) h1, by rw [h2, blen_half h0]; omega⟩
      rw [round_rbits, show (v : Int).tdiv 2 = ((v / 2 : Nat) : Int) from rfl, dT (show (0 : Int) < (v : Int) by omega), i64T (show -9223372036854775808 ≤ (n : Int) + 1 ∧ (n : Int) + 1 ≤ 9223372036854775807 by omega), i64L (v / 2) (by omega)]
      rfl
theorem loop_rbits (n v : Int) (h : pre_rbits n v) : ∃ r : Int × Int, LoopTo Try.prog (lb 39 p_rbits) (sh_rbits n v) (hp_rbits n v) (.exit 0) (sh_rbits r.1 r.2) (hp_rbits r.1 r.2) ∧ post_rbits n v r := by
  obtain ⟨h1, h2, h3, h4⟩ := h
  obtain ⟨n, rfl⟩ := Int.eq_ofNat_of_zero_le h1
  obtain ⟨v, rfl⟩ := Int.eq_ofNat_of_zero_le h3
  exact rbits_go v n v rfl (by omega) (by omega)
def told_rbits (κ : Int → Int → Bool) (φ : Int → Int → Int × Int) (T : List AV) (H : Hp) : Option (Bool × Ex × List AV × Hp) :=
  match lget T 4, lget T 5, H with
  | .val (.int .i64 n), .val (.int .i64 v), [] => bif T.length == 25 then some (κ n v, .exit 0, sh_rbits ((φ n v).1) ((φ n v).2), hp_rbits ((φ n v).1) ((φ n v).2)) else none
  | _, _, _ => none
abbrev KT_rbits : Type := Int → Int → Bool
abbrev FT_rbits : Type := Int → Int → Int × Int
def LL_rbits (κ : KT_rbits) (φ : FT_rbits) (L : LTab) : LTab := addLn 0 39 p_rbits [4, 5] (told_rbits κ φ) L
def phi_rbits (n : Int) (v : Int) : Int × Int := Classical.epsilon fun ρ => LoopTo Try.prog (lb 39 p_rbits) (sh_rbits n v) (hp_rbits n v) (.exit 0) (sh_rbits (ρ.1) (ρ.2)) (hp_rbits (ρ.1) (ρ.2)) ∧ post_rbits n v ρ
theorem phi_rbits_spec (n : Int) (v : Int) (h : pre_rbits n v) : LoopTo Try.prog (lb 39 p_rbits) (sh_rbits n v) (hp_rbits n v) (.exit 0) (sh_rbits ((phi_rbits n v).1) ((phi_rbits n v).2)) (hp_rbits ((phi_rbits n v).1) ((phi_rbits n v).2)) ∧ post_rbits n v (phi_rbits n v) := Classical.epsilon_spec (loop_rbits n v h)
def cond_rbits (n : Int) (v : Int) : Bool := @decide (pre_rbits n v) (Classical.propDecidable _)
theorem cond_rbits_eq (n : Int) (v : Int) (h : pre_rbits n v) : cond_rbits n v = true := @decide_eq_true _ (Classical.propDecidable _) h
theorem told_rbits_ok (T : List AV) (H : Hp) (e : Ex) (T1 : List AV) (H1 : Hp) (h : told_rbits cond_rbits phi_rbits T H = some (true, e, T1, H1)) : V.Ends Try.prog false 0 0 (.loop (lb 39 p_rbits)) T H e T1 H1 := by
  unfold told_rbits at h
  split at h
  · rename_i n v h4 h5
    rw [Bool.cond_eq_ite] at h
    split at h
    · rename_i hlen
      rw [beq_iff_eq] at hlen
      simp only [Option.some.injEq, Prod.mk.injEq, Bool.and_eq_true, decide_eq_true_eq] at h
      obtain ⟨k1, rfl, rfl, rfl⟩ := h
      have kc := @of_decide_eq_true _ (Classical.propDecidable _) k1
      refine Ends.pre (phi_rbits_spec n v kc).1.ends (fun α B w D ys hr => slots_rel hlen (fun p hp y hy => ?_) hr)
      simp only [List.mem_cons, List.not_mem_nil, or_false] at hp
      rcases hp with rfl | rfl
      · rw [h4] at hy; exact hy
      · rw [h5] at hy; exact hy
    · cases h
  · cases h
theorem LL_rbits_ok {L : LTab} (h : LOk Try.prog L) : LOk Try.prog (LL_rbits cond_rbits phi_rbits L) := h.add2n body_rbits told_rbits_ok
theorem rbits_call (S : Sg) (κ : KT_rbits) (φ : FT_rbits) (b : Bool) (s : ByteArray) : callA Try.prog ⟨addC 65 (tStrip S) noC, Kall, LL_rbits κ φ noL⟩ 10 10 39 [.agg [.val (.bool b), .val (.string s)]] =
    (bif strEq (S.mg (S.vs s)) (ByteArray.mk #[]) then some (.val (.int .i64 0)) else (bif inR IntKind.i64 ((↑(S.mg (S.vs s)).size : Int) - (1 : Int)) then (bif inR IntKind.i64 ((8 : Int) * ((↑(S.mg (S.vs s)).size : Int) - (1 : Int))) then (bif decide ((0 : Int) < (↑(S.mg (S.vs s)).size : Int)) then (bif inR IntKind.i64 (byteAt (S.mg (S.vs s)) (0 : Nat)) then (bif κ ((8 : Int) * ((↑(S.mg (S.vs s)).size : Int) - (1 : Int))) (byteAt (S.mg (S.vs s)) (0 : Nat)) then some (.val (.int .i64 ((φ ((8 : Int) * ((↑(S.mg (S.vs s)).size : Int) - (1 : Int))) (byteAt (S.mg (S.vs s)) (0 : Nat))).fst))) else none) else none) else none) else none) else none)) := by kernel_rfl
theorem blen_sh {V k : Nat} (h : 0 < V / 2 ^ k) : blen V = k + blen (V / 2 ^ k) := by
  have hp := Nat.two_pow_pos k
  obtain ⟨h1, h2⟩ := blen_is (V / 2 ^ k)
  have hb : 0 < blen (V / 2 ^ k) := by
    rcases Nat.eq_zero_or_pos (blen (V / 2 ^ k)) with e | e
    · rw [e] at h1
      have h9 : V / 2 ^ k < 1 := h1
      omega
    · exact e
  refine (blen_is V).uniq ⟨?_, fun _ => ?_⟩
  · rw [Nat.div_lt_iff_lt_mul hp, ← Nat.pow_add, Nat.add_comm] at h1
    exact h1
  · have h3 := h2 hb
    rw [Nat.le_div_iff_mul_le hp, ← Nat.pow_add] at h3
    rw [show k + blen (V / 2 ^ k) - 1 = blen (V / 2 ^ k) - 1 + k by omega]
    exact h3
theorem eRBits : Entry Try.prog 39 (tBits sg0) := by
  refine entry_of (E := ⟨addC 65 (tStrip sg0) noC, Kall, LL_rbits cond_rbits phi_rbits noL⟩) (u := 10) (d := 10) ((meets_none _).add eRTrim) (LL_rbits_ok LOk.none).ok mixed (by kernel_rfl) (fun args r h => ?_)
  unfold tBits at h
  split at h
  · rename_i b s
    simp only [Option.some.injEq, Prod.mk.injEq] at h
    obtain ⟨h1, rfl⟩ := h
    have hcall := rbits_call sg0 cond_rbits phi_rbits b s
    have hbs := ok_out h1
    have hm : strEq (sg0.mg (sg0.vs s)) (ByteArray.mk #[]) = decide (sg0.vs s = 0) := magOf_nil (vS s)
    have hsz : (sg0.mg (sg0.vs s)).size = bs (sg0.vs s) := size_magOf _
    rw [hm, hsz] at hcall
    rw [hcall]
    show _ = some (AV.val (.int .i64 ((blen (sg0.vs s) : Nat) : Int)))
    generalize hV : sg0.vs s = V at *
    by_cases h0 : V = 0
    · rw [dT h0, h0, show blen 0 = 0 from (blen_is 0).uniq ⟨by decide, fun h => absurd h (by decide)⟩]
      rfl
    · have hL : 0 < bs V := by
        rcases Nat.eq_zero_or_pos (bs V) with e | e
        · have := bs_lt V; rw [e] at this; omega
        · exact e
      obtain ⟨c, hc⟩ : ∃ c, bs V = c + 1 := ⟨bs V - 1, by omega⟩
      have hd := digit_at (sg0.mg V) c (by rw [hsz]; omega)
      have hvm : vS (sg0.mg V) = V := vS_magOf V
      rw [hsz, hvm, hc, Nat.sub_self] at hd
      have hlt := bs_lt V
      rw [hc] at hlt
      have hq : V / 256 ^ c < 256 := by
        rw [Nat.div_lt_iff_lt_mul (Nat.pow_pos (by decide)), Nat.mul_comm, ← Nat.pow_succ]; exact hlt
      have hq0 : 0 < V / 256 ^ c := by
        rcases Nat.lt_or_ge V (256 ^ c) with e | e
        · have := bs_le (n := V) (m := c) e; omega
        · exact Nat.div_pos e (Nat.pow_pos (by decide))
      have hbl : blen V = 8 * c + blen (V / 256 ^ c) := by
        have e : (256 : Nat) ^ c = 2 ^ (8 * c) := by rw [Nat.pow_mul]
        rw [e] at hq0 ⊢
        exact blen_sh hq0
      rw [Nat.mod_eq_of_lt hq] at hd
      rw [dF h0, hd, hbl, hc, show (8 : Int) * (((c + 1 : Nat) : Int) - 1) = ((8 * c : Nat) : Int) by omega, show ((c + 1 : Nat) : Int) - 1 = (c : Int) by omega]
      generalize V / 256 ^ c = q at *
      have hp : pre_rbits ((8 * c : Nat) : Int) (q : Int) := ⟨by omega, by omega, by omega, by omega⟩
      obtain ⟨_, hpost⟩ := phi_rbits_spec _ _ hp
      unfold post_rbits at hpost
      rw [Int.toNat_natCast] at hpost
      rw [cond_rbits_eq _ _ hp, hpost, i64L c (by omega), i64L (8 * c) (by omega), i64L q (by omega), dT (show (0 : Int) < ((c + 1 : Nat) : Int) by omega), Int.natCast_add (8 * c) (blen q)]
      rfl
  · cases h
end
end Go.Proofs.Ytlpfnbopmigefaa.L

/- Small, told. -/
set_option linter.unusedVariables false
set_option linter.unusedSimpArgs false
namespace Go.Proofs.Ytlpfnbopmigefaa.L
open Go Go.V Go.RowKit Go.Proofs.Ytlpfnbopmigefaa.Sp Go.Proofs.Ytlpfnbopmigefaa.F Go.Proofs.YtlpfnbopmigefaaW.PrintWords
open Go.Proofs (Try.prog)
noncomputable section
def CSm (S : Sg) : FuncId → List AV → Option (Bool × AV) := addC 47 (tLoad S) noC
theorem CSm_ok : Meets Try.prog (CSm sg0) := (meets_none _).add eLoad
abbrev p_sm : List Bool := [false, true, false, true, true, true, true]
def sh_sm (u : Int) (xs : List Int) (n : Int) (i : Int) (b : Bool) (s : ByteArray) : List AV := slots 49 [(1, .ptr 0 0), (5, .val (.int .u64 u)), (14, .lst false 64 xs.length (lim xs)), (15, .val (.int .i64 n)), (16, .val (.int .i64 i))]
def hp_sm (u : Int) (xs : List Int) (n : Int) (i : Int) (b : Bool) (s : ByteArray) : Hp := [.row (.cells [.val (.bool b), .val (.string s)]) 23 .live]
theorem body_sm : subC Try.prog 33 p_sm = some (.loop (lb 33 p_sm)) := by kernel_rfl
theorem code_sm : subC Try.prog 33 (false :: p_sm) = some (lb 33 p_sm) := by kernel_rfl
theorem round_sm  (u : Int) (xs : List Int) (n : Int) (i : Int) (b : Bool) (s : ByteArray) : roundA Try.prog EL0 33 [1, 5, 14, 15, 16] (lb 33 p_sm) (false :: p_sm) (sh_sm u xs n i b s) (hp_sm u xs n i b s) =
    (bif decide (i < n) then (bif decide ((0 : Int) ≤ i) && decide (i < (↑xs.length : Int)) then (bif inR IntKind.u64 (xs.getD i.toNat (0 : Int)) then (bif inR IntKind.i64 ((32 : Int) * i) then (bif decide ((32 : Int) * i < (0 : Int)) then none else (bif inR IntKind.i64 (i + (1 : Int)) then some (.normal, slots 49 [(1, (.ptr 0 0)), (5, (.val (.int .u64 (bitI BinOp.or IntKind.u64 u (IntKind.u64.wrap (xs.getD i.toNat (0 : Int) * (2 : Int) ^ min ((32 : Int) * i).toNat (64 : Nat))))))), (14, (.lst false 64 xs.length (lim xs))), (15, (.val (.int .i64 n))), (16, (.val (.int .i64 (i + (1 : Int)))))], [(.row (.cells [(.val (.bool b)), (.val (.string s))]) 23 .live)]) else none)) else none) else none) else none) else some ((.exit 0), slots 49 [(1, (.ptr 0 0)), (5, (.val (.int .u64 u))), (14, (.lst false 64 xs.length (lim xs))), (15, (.val (.int .i64 n))), (16, (.val (.int .i64 i)))], [(.row (.cells [(.val (.bool b)), (.val (.string s))]) 23 .live)])) := by kernel_rfl
theorem step_sm {u : Int} {xs : List Int} {n : Int} {i : Int} {b : Bool} {s : ByteArray} {e : Ex} {T : List AV} {H : Hp} (h : roundA Try.prog EL0 33 [1, 5, 14, 15, 16] (lb 33 p_sm) (false :: p_sm) (sh_sm u xs n i b s) (hp_sm u xs n i b s) = some (e, T, H)) : V.Ends Try.prog false 0 0 (lb 33 p_sm) (sh_sm u xs n i b s) (hp_sm u xs n i b s) e T H :=
  round_ends (meets_none _) loops_none mixed code_sm h
def pre_sm (u : Int) (xs : List Int) (n i : Int) (b : Bool) (s : ByteArray) : Prop := okL xs ∧ xs.length ≤ 2 ∧ n = xs.length ∧ u = 0 ∧ i = 0
def post_sm (u : Int) (xs : List Int) (n i : Int) (b : Bool) (s : ByteArray) (r : Int × Int) : Prop := r.1 = (vL xs : Nat)
theorem or_lo (u c : Nat) (hu : u < 4294967296) (hc : c < 4294967296) : bitI .or .u64 (u : Int) (IntKind.u64.wrap ((c : Int) * 2 ^ min ((32 : Int) * 1).toNat (64 : Nat))) = ((u + c * 4294967296 : Nat) : Int) := by
  have e : IntKind.u64.wrap ((c : Int) * 2 ^ min ((32 : Int) * 1).toNat (64 : Nat)) = ((c * 4294967296 : Nat) : Int) := by
    have e1 : (c : Int) * 2 ^ min ((32 : Int) * 1).toNat (64 : Nat) = ((c * 4294967296 : Nat) : Int) := by rw [Int.natCast_mul]; rfl
    rw [e1, u64n (by omega)]
  rw [e]
  have e2 := u64_or_nat u (c * 4294967296) (by omega) (by omega)
  have e3 : bitI .or .u64 (u : Int) ((c * 4294967296 : Nat) : Int) = _ := e2
  rw [e3, Nat.or_comm, nat_join 32 _ _ (by omega) (by omega), Nat.add_comm]
theorem or_lo0 (c : Nat) (hc : c < 4294967296) : bitI .or .u64 (0 : Int) (IntKind.u64.wrap ((c : Int) * 2 ^ min ((32 : Int) * 0).toNat (64 : Nat))) = ((c : Nat) : Int) := by
  have e : IntKind.u64.wrap ((c : Int) * 2 ^ min ((32 : Int) * 0).toNat (64 : Nat)) = ((c : Nat) : Int) := by
    have e1 : (c : Int) * 2 ^ min ((32 : Int) * 0).toNat (64 : Nat) = ((c : Nat) : Int) := by show (c : Int) * 1 = _; omega
    rw [e1, u64n (by omega)]
  rw [e]
  have e2 := u64_or_nat 0 c (by omega) (by omega)
  have e3 : bitI .or .u64 (0 : Int) ((c : Nat) : Int) = _ := e2
  rw [e3, Nat.zero_or]
theorem sm_last (u : Int) (xs : List Int) (i : Int) (b : Bool) (s : ByteArray) (h : i = xs.length) : LoopTo Try.prog (lb 33 p_sm) (sh_sm u xs xs.length i b s) (hp_sm u xs xs.length i b s) (.exit 0) (sh_sm u xs xs.length i b s) (hp_sm u xs xs.length i b s) := by
  refine .last (step_sm ?_) (by intro h; cases h)
  rw [round_sm, dF (show ¬ i < (xs.length : Int) by omega)]
  rfl
theorem loop_sm (u : Int) (xs : List Int) (n i : Int) (b : Bool) (s : ByteArray) (h : pre_sm u xs n i b s) : ∃ r : Int × Int, LoopTo Try.prog (lb 33 p_sm) (sh_sm u xs n i b s) (hp_sm u xs n i b s) (.exit 0) (sh_sm r.1 xs n r.2 b s) (hp_sm r.1 xs n r.2 b s) ∧ post_sm u xs n i b s r := by
  obtain ⟨h1, h2, rfl, rfl, rfl⟩ := h
  unfold post_sm
  match xs, h1, h2 with
  | [], _, _ => exact ⟨(0, 0), sm_last 0 [] 0 b s rfl, rfl⟩
  | [a], h1, _ =>
    have ha := (okL_cons.1 h1).1
    obtain ⟨a', rfl⟩ := Int.eq_ofNat_of_zero_le ha.1
    refine ⟨((a' : Int), 1), .more (step_sm ?_) (sm_last (a' : Int) [(a' : Int)] 1 b s rfl), by rw [vL_cons, vL_nil]; simp⟩
    rw [round_sm]
    rw [dT (show (0 : Int) < (([(a' : Int)] : List Int).length : Int) by show (0 : Int) < 1; decide), show ([(a' : Int)] : List Int).getD (0 : Int).toNat 0 = (a' : Int) from rfl, or_lo0 a' (by omega), u64T (by omega)]
    rfl
  | [a, c], h1, _ =>
    have ha := (okL_cons.1 h1).1
    have hc := (okL_cons.1 (okL_cons.1 h1).2).1
    obtain ⟨a', rfl⟩ := Int.eq_ofNat_of_zero_le ha.1
    obtain ⟨c', rfl⟩ := Int.eq_ofNat_of_zero_le hc.1
    have l1 := step_sm (u := 0) (xs := [(a' : Int), (c' : Int)]) (n := (([(a' : Int), (c' : Int)] : List Int).length : Int)) (i := 0) (b := b) (s := s) (e := .normal) (T := sh_sm (a' : Int) [(a' : Int), (c' : Int)] (([(a' : Int), (c' : Int)] : List Int).length : Int) 1 b s) (H := hp_sm (a' : Int) [(a' : Int), (c' : Int)] (([(a' : Int), (c' : Int)] : List Int).length : Int) 1 b s) (by
      rw [round_sm]
      rw [dT (show (0 : Int) < (([(a' : Int), (c' : Int)] : List Int).length : Int) by show (0 : Int) < 2; decide), show ([(a' : Int), (c' : Int)] : List Int).getD (0 : Int).toNat 0 = (a' : Int) from rfl, or_lo0 a' (by omega), u64T (by omega)]
      rfl)
    have l2 := step_sm (u := (a' : Int)) (xs := [(a' : Int), (c' : Int)]) (n := (([(a' : Int), (c' : Int)] : List Int).length : Int)) (i := 1) (b := b) (s := s) (e := .normal) (T := sh_sm ((a' + c' * 4294967296 : Nat) : Int) [(a' : Int), (c' : Int)] (([(a' : Int), (c' : Int)] : List Int).length : Int) 2 b s) (H := hp_sm ((a' + c' * 4294967296 : Nat) : Int) [(a' : Int), (c' : Int)] (([(a' : Int), (c' : Int)] : List Int).length : Int) 2 b s) (by
      rw [round_sm]
      rw [dT (show (1 : Int) < (([(a' : Int), (c' : Int)] : List Int).length : Int) by show (1 : Int) < 2; decide), show ([(a' : Int), (c' : Int)] : List Int).getD (1 : Int).toNat 0 = (c' : Int) from rfl, or_lo a' c' (by omega) (by omega), u64T (by omega)]
      rfl)
    refine ⟨(((a' + c' * 4294967296 : Nat) : Int), 2), .more l1 (.more l2 (sm_last _ [(a' : Int), (c' : Int)] 2 b s rfl)), ?_⟩
    rw [vL_cons, vL_cons, vL_nil, Int.toNat_natCast, Int.toNat_natCast]
    show ((a' + c' * 4294967296 : Nat) : Int) = _
    omega
  | _ :: _ :: _ :: _, _, h2 => exact absurd h2 (by simp)
def told_sm (κ : Int → List Int → Int → Int → Bool → ByteArray → Bool) (φ : Int → List Int → Int → Int → Bool → ByteArray → Int × Int) (T : List AV) (H : Hp) : Option (Bool × Ex × List AV × Hp) :=
  match lget T 1, lget T 5, lget T 14, lget T 15, lget T 16, H with
  | .ptr 0 0, .val (.int .u64 u), .lst false 64 m_xs f_xs, .val (.int .i64 n), .val (.int .i64 i), [.row (.cells [.val (.bool b), .val (.string s)]) 23 .live] => bif T.length == 49 then some (okB m_xs f_xs && κ u (rowOf m_xs f_xs) n i b s, .exit 0, sh_sm ((φ u (rowOf m_xs f_xs) n i b s).1) (rowOf m_xs f_xs) n ((φ u (rowOf m_xs f_xs) n i b s).2) b s, hp_sm ((φ u (rowOf m_xs f_xs) n i b s).1) (rowOf m_xs f_xs) n ((φ u (rowOf m_xs f_xs) n i b s).2) b s) else none
  | _, _, _, _, _, _ => none
abbrev KT_sm : Type := Int → List Int → Int → Int → Bool → ByteArray → Bool
abbrev FT_sm : Type := Int → List Int → Int → Int → Bool → ByteArray → Int × Int
def LL_sm (κ : KT_sm) (φ : FT_sm) (L : LTab) : LTab := addLn 0 33 p_sm [1, 5, 14, 15, 16] (told_sm κ φ) L
def phi_sm (u : Int) (xs : List Int) (n : Int) (i : Int) (b : Bool) (s : ByteArray) : Int × Int := Classical.epsilon fun ρ => LoopTo Try.prog (lb 33 p_sm) (sh_sm u xs n i b s) (hp_sm u xs n i b s) (.exit 0) (sh_sm (ρ.1) xs n (ρ.2) b s) (hp_sm (ρ.1) xs n (ρ.2) b s) ∧ post_sm u xs n i b s ρ
theorem phi_sm_spec (u : Int) (xs : List Int) (n : Int) (i : Int) (b : Bool) (s : ByteArray) (h : pre_sm u xs n i b s) : LoopTo Try.prog (lb 33 p_sm) (sh_sm u xs n i b s) (hp_sm u xs n i b s) (.exit 0) (sh_sm ((phi_sm u xs n i b s).1) xs n ((phi_sm u xs n i b s).2) b s) (hp_sm ((phi_sm u xs n i b s).1) xs n ((phi_sm u xs n i b s).2) b s) ∧ post_sm u xs n i b s (phi_sm u xs n i b s) := Classical.epsilon_spec (loop_sm u xs n i b s h)
def cond_sm (u : Int) (xs : List Int) (n : Int) (i : Int) (b : Bool) (s : ByteArray) : Bool := @decide (pre_sm u xs n i b s) (Classical.propDecidable _)
theorem cond_sm_eq (u : Int) (xs : List Int) (n : Int) (i : Int) (b : Bool) (s : ByteArray) (h : pre_sm u xs n i b s) : cond_sm u xs n i b s = true := @decide_eq_true _ (Classical.propDecidable _) h
theorem told_sm_ok (T : List AV) (H : Hp) (e : Ex) (T1 : List AV) (H1 : Hp) (h : told_sm cond_sm phi_sm T H = some (true, e, T1, H1)) : V.Ends Try.prog false 0 0 (.loop (lb 33 p_sm)) T H e T1 H1 := by
  unfold told_sm at h
  split at h
  · rename_i u m_xs f_xs n i b s h1 h5 h14 h15 h16
    rw [Bool.cond_eq_ite] at h
    split at h
    · rename_i hlen
      rw [beq_iff_eq] at hlen
      simp only [Option.some.injEq, Prod.mk.injEq, Bool.and_eq_true, decide_eq_true_eq] at h
      obtain ⟨⟨k1, k2⟩, rfl, rfl, rfl⟩ := h
      have kc := @of_decide_eq_true _ (Classical.propDecidable _) k2
      refine Ends.pre (phi_sm_spec u (rowOf m_xs f_xs) n i b s kc).1.ends (fun α B w D ys hr => slots_rel hlen (fun p hp y hy => ?_) hr)
      simp only [List.mem_cons, List.not_mem_nil, or_false] at hp
      rcases hp with rfl | rfl | rfl | rfl | rfl
      · rw [h1] at hy; exact hy
      · rw [h5] at hy; exact hy
      · rw [h14] at hy; rw [rowOf_len]; exact row_norm cells64 k1 hy
      · rw [h15] at hy; exact hy
      · rw [h16] at hy; exact hy
    · cases h
  · cases h
theorem LL_sm_ok {L : LTab} (h : LOk Try.prog L) : LOk Try.prog (LL_sm cond_sm phi_sm L) := h.add2n body_sm told_sm_ok
theorem small_call (S : Sg) (κ : KT_sm) (φ : FT_sm) (b : Bool) (s : ByteArray) : callA Try.prog ⟨CSm S, Kall, LL_sm κ φ noL⟩ 10 10 33 [.agg [.val (.bool b), .val (.string s)]] =
    (bif S.ok s then (bif decide ((2 : Int) < (↑(S.len (S.vs s)) : Int)) then some (.tup [(.val (.int .i64 0)), (.val (.bool false))]) else (bif okB (S.len (S.vs s)) (S.row (S.vs s)) && κ (0 : Int) (rowOf (S.len (S.vs s)) (S.row (S.vs s))) (↑(S.len (S.vs s)) : Int) (0 : Int) b s then (bif b then (bif decide ((φ (0 : Int) (rowOf (S.len (S.vs s)) (S.row (S.vs s))) (↑(S.len (S.vs s)) : Int) (0 : Int) b s).fst ≤ (9223372036854775808 : Int)) then some (.tup [(.val (.int .i64 (IntKind.i64.wrap (IntKind.u64.wrap ((0 : Int) - (φ (0 : Int) (rowOf (S.len (S.vs s)) (S.row (S.vs s))) (↑(S.len (S.vs s)) : Int) (0 : Int) b s).fst))))), (.val (.bool true))]) else (bif !b then (bif decide ((φ (0 : Int) (rowOf (S.len (S.vs s)) (S.row (S.vs s))) (↑(S.len (S.vs s)) : Int) (0 : Int) b s).fst < (9223372036854775808 : Int)) then some (.tup [(.val (.int .i64 (IntKind.i64.wrap (φ (0 : Int) (rowOf (S.len (S.vs s)) (S.row (S.vs s))) (↑(S.len (S.vs s)) : Int) (0 : Int) b s).fst))), (.val (.bool true))]) else some (.tup [(.val (.int .i64 0)), (.val (.bool false))])) else some (.tup [(.val (.int .i64 0)), (.val (.bool false))]))) else (bif !b then (bif decide ((φ (0 : Int) (rowOf (S.len (S.vs s)) (S.row (S.vs s))) (↑(S.len (S.vs s)) : Int) (0 : Int) b s).fst < (9223372036854775808 : Int)) then some (.tup [(.val (.int .i64 (IntKind.i64.wrap (φ (0 : Int) (rowOf (S.len (S.vs s)) (S.row (S.vs s))) (↑(S.len (S.vs s)) : Int) (0 : Int) b s).fst))), (.val (.bool true))]) else some (.tup [(.val (.int .i64 0)), (.val (.bool false))])) else some (.tup [(.val (.int .i64 0)), (.val (.bool false))]))) else none)) else none) := by kernel_rfl
theorem eSmallX (X : Xg) (g1 : X.sv = fun z => if -9223372036854775808 ≤ z ∧ z < 9223372036854775808 then z else 0) (g2 : X.sb = fun z => decide (-9223372036854775808 ≤ z ∧ z < 9223372036854775808)) : Entry Try.prog 33 (tSmall sg0 X) := by
  refine entry_of (E := ⟨CSm sg0, Kall, LL_sm cond_sm phi_sm noL⟩) (u := 10) (d := 10) CSm_ok (LL_sm_ok LOk.none).ok mixed (by kernel_rfl) (fun args r h => ?_)
  unfold tSmall at h
  split at h
  · rename_i b s
    simp only [Option.some.injEq, Prod.mk.injEq] at h
    obtain ⟨h1, rfl⟩ := h
    have hcall := small_call sg0 cond_sm phi_sm b s
    rw [h1] at hcall
    have er : rowOf (sg0.len (sg0.vs s)) (sg0.row (sg0.vs s)) = toL (sg0.vs s) := rowOf_enc _
    have eo : okB (sg0.len (sg0.vs s)) (sg0.row (sg0.vs s)) = true := okB_enc _
    have hv : sg0.val b s = sg0.sg b (sg0.vs s) := rfl
    have hs : X.sv (sg0.val b s) = if -9223372036854775808 ≤ sg0.val b s ∧ sg0.val b s < 9223372036854775808 then sg0.val b s else 0 := by rw [g1]
    have hb : X.sb (sg0.val b s) = decide (-9223372036854775808 ≤ sg0.val b s ∧ sg0.val b s < 9223372036854775808) := by rw [g2]
    have t1 : ∀ k : Nat, sg0.sg true k = -(k : Int) := fun k => rfl
    have t2 : ∀ k : Nat, sg0.sg false k = (k : Int) := fun k => rfl
    rw [hs, hb, hv]
    rw [er, eo] at hcall
    generalize hN : sg0.vs s = N at *
    by_cases h2 : (2 : Int) < (sg0.len N : Int)
    · have hbig : ¬ N < 18446744073709551616 := by
        intro hlt
        have h3 : (toL N).length ≤ 2 := len_toL_le (show N < 4294967296 ^ 2 from hlt)
        have h4 : sg0.len N = (toL N).length := rfl
        omega
      rw [dT h2] at hcall
      rw [hcall]
      cases b
      · rw [t2, if_neg (by omega), dF (show ¬ (-9223372036854775808 ≤ (N : Int) ∧ (N : Int) < 9223372036854775808) by omega)]; rfl
      · rw [t1, if_neg (by omega), dF (show ¬ (-9223372036854775808 ≤ -(N : Int) ∧ -(N : Int) < 9223372036854775808) by omega)]; rfl
    · have h4 : sg0.len N = (toL N).length := rfl
      have hlt : N < 18446744073709551616 := by
        have h3 : (toL N).length ≤ 2 := by omega
        exact (lt_of_len_toL h3 : N < 4294967296 ^ 2)
      have hp : pre_sm 0 (toL N) (sg0.len N : Int) 0 b s := ⟨okL_toL N, by omega, rfl, rfl, rfl⟩
      obtain ⟨_, hpost⟩ := phi_sm_spec _ _ _ _ _ _ hp
      unfold post_sm at hpost
      rw [vL_toL] at hpost
      rw [dF h2, cond_sm_eq _ _ _ _ _ _ hp, hpost] at hcall
      rw [hcall]
      cases b
      · rw [t2]
        by_cases h5 : N < 9223372036854775808
        · rw [if_pos (by omega), dT (show (N : Int) < 9223372036854775808 by omega), dT (show -9223372036854775808 ≤ (N : Int) ∧ (N : Int) < 9223372036854775808 by omega), show IntKind.i64.wrap (N : Int) = N by rw [IntKind.wrap_i64]; omega]
          rfl
        · rw [if_neg (by omega), dF (show ¬ (N : Int) < 9223372036854775808 by omega), dF (show ¬ (-9223372036854775808 ≤ (N : Int) ∧ (N : Int) < 9223372036854775808) by omega)]
          rfl
      · rw [t1]
        by_cases h5 : N ≤ 9223372036854775808
        · rw [if_pos (by omega), dT (show (N : Int) ≤ 9223372036854775808 by omega), dT (show -9223372036854775808 ≤ -(N : Int) ∧ -(N : Int) < 9223372036854775808 by omega), show IntKind.i64.wrap (IntKind.u64.wrap (0 - (N : Int))) = -(N : Int) by rw [IntKind.wrap_i64, IntKind.wrap_u64]; omega]
          rfl
        · rw [if_neg (by omega), dF (show ¬ (N : Int) ≤ 9223372036854775808 by omega), dF (show ¬ (-9223372036854775808 ≤ -(N : Int) ∧ -(N : Int) < 9223372036854775808) by omega)]
          rfl
  · cases h
end
end Go.Proofs.Ytlpfnbopmigefaa.L
