/- BigintOrder: its loop, told; the law's tree. -/
import Derived.Test.YtlpfnbopmigefaaZL
import Derived.Test.YtlpfnbopmigefaaZA3
import Derived.Test.YtlpfnbopmigefaaZBZ
set_option linter.unusedVariables false
set_option linter.unusedSimpArgs false

/- BigintOrder: its loop, told; the law's tree. -/
set_option linter.unusedVariables false
namespace Go.Proofs.Ytlpfnbopmigefaa.L
open Go Go.V Go.RowKit Go.Proofs.Ytlpfnbopmigefaa.Sp
open Go.Proofs (Try.prog)
noncomputable section
abbrev p_ord : List Bool := [false, true, false, true, true, true, true, true, true, true, true, true, true]
def sh_ord (n : Int) (i : Int) (b0 : Bool) (s0 : ByteArray) (b1 : Bool) (s1 : ByteArray) (b2 : Bool) (s2 : ByteArray) : List AV := slots 120 [(9, .ptr 0 0), (11, .ptr 1 0), (12, .ptr 2 0), (99, .val (.int .i64 n)), (100, .val (.int .i64 i))]
def hp_ord (n : Int) (i : Int) (b0 : Bool) (s0 : ByteArray) (b1 : Bool) (s1 : ByteArray) (b2 : Bool) (s2 : ByteArray) : Hp := [.row (.cells [.val (.bool b0), .val (.string s0)]) 23 .live, .row (.cells [.val (.bool b1), .val (.string s1)]) 23 .live, .row (.cells [.val (.bool b2), .val (.string s2)]) 23 .live]
theorem body_ord : subC Try.prog 7 p_ord = some (.loop (lb 7 p_ord)) := by kernel_rfl
theorem code_ord : subC Try.prog 7 (false :: p_ord) = some (lb 7 p_ord) := by kernel_rfl
theorem round_ord (S : Sg) (n : Int) (i : Int) (b0 : Bool) (s0 : ByteArray) (b1 : Bool) (s1 : ByteArray) (b2 : Bool) (s2 : ByteArray) : roundA Try.prog (EB S) 7 [9, 11, 12, 99, 100] (lb 7 p_ord) (false :: p_ord) (sh_ord n i b0 s0 b1 s1 b2 s2) (hp_ord n i b0 s0 b1 s1 b2 s2) =
    (bif decide (i < n) then (bif S.ok s1 && S.ok s1 then (bif inR IntKind.i64 (i + (1 : Int)) then some (.normal, slots 120 [(9, (.ptr 0 0)), (11, (.ptr 1 0)), (12, (.ptr 2 0)), (99, (.val (.int .i64 n))), (100, (.val (.int .i64 (i + (1 : Int)))))], [(.row (.cells [(.val (.bool b0)), (.val (.string s0))]) 23 .live), (.row (.cells [(.val (.bool (S.ng (S.val b1 s1 + S.val b1 s1)))), (.val (.string (S.ms (S.val b1 s1 + S.val b1 s1))))]) 23 .live), (.row (.cells [(.val (.bool b1)), (.val (.string s1))]) 23 .live)]) else none) else none) else some ((.exit 0), slots 120 [(9, (.ptr 0 0)), (11, (.ptr 1 0)), (12, (.ptr 2 0)), (99, (.val (.int .i64 n))), (100, (.val (.int .i64 i)))], [(.row (.cells [(.val (.bool b0)), (.val (.string s0))]) 23 .live), (.row (.cells [(.val (.bool b1)), (.val (.string s1))]) 23 .live), (.row (.cells [(.val (.bool b2)), (.val (.string s2))]) 23 .live)])) := by kernel_rfl
theorem step_ord {n : Int} {i : Int} {b0 : Bool} {s0 : ByteArray} {b1 : Bool} {s1 : ByteArray} {b2 : Bool} {s2 : ByteArray} {e : Ex} {T : List AV} {H : Hp} (h : roundA Try.prog (EB sg0) 7 [9, 11, 12, 99, 100] (lb 7 p_ord) (false :: p_ord) (sh_ord n i b0 s0 b1 s1 b2 s2) (hp_ord n i b0 s0 b1 s1 b2 s2) = some (e, T, H)) : V.Ends Try.prog false 0 0 (lb 7 p_ord) (sh_ord n i b0 s0 b1 s1 b2 s2) (hp_ord n i b0 s0 b1 s1 b2 s2) e T H :=
  round_ends ((meets_none _).add eAdd) loops_none mixed code_ord h
def hf (i : Nat) : Int := if i = 0 then 0 else (2 ^ (i - 1) : Nat)
def pre_ord (n i : Int) (b0 : Bool) (s0 : ByteArray) (b1 : Bool) (s1 : ByteArray) (b2 : Bool) (s2 : ByteArray) : Prop := ∃ N : Nat, n = N ∧ N ≤ 480 ∧ i = 0 ∧ b1 = sg0.ng 1 ∧ s1 = sg0.ms 1 ∧ b2 = sg0.ng 0 ∧ s2 = sg0.ms 0
def post_ord (n i : Int) (b0 : Bool) (s0 : ByteArray) (b1 : Bool) (s1 : ByteArray) (b2 : Bool) (s2 : ByteArray) (r : Int × Bool × ByteArray × Bool × ByteArray) : Prop :=
  r.2.1 = sg0.ng (2 ^ n.toNat : Nat) ∧ r.2.2.1 = sg0.ms (2 ^ n.toNat : Nat) ∧ r.2.2.2.1 = sg0.ng (hf n.toNat) ∧ r.2.2.2.2 = sg0.ms (hf n.toNat)
theorem pow256 (k : Nat) : (256 : Nat) ^ k = 2 ^ (8 * k) := by rw [Nat.pow_mul]
theorem pow_lt256 (i k : Nat) (h : i < 8 * k) : 2 ^ i < 256 ^ k := by rw [pow256]; exact Nat.pow_lt_pow_right (by decide) h
theorem bs_pow (i k : Nat) (h : i < 8 * k) : bs (2 ^ i) ≤ k := bs_le (pow_lt256 i k h)
theorem bs_two {i : Nat} (h : i ≤ 480) : bs (2 ^ i) ≤ 61 := bs_pow i 61 (by omega)
theorem ord_go (N : Nat) (hN : N ≤ 480) (b0 : Bool) (s0 : ByteArray) (d : Nat) : ∀ i : Nat, i + d = N → LoopTo Try.prog (lb 7 p_ord) (sh_ord N i b0 s0 (sg0.ng (2 ^ i : Nat)) (sg0.ms (2 ^ i : Nat)) (sg0.ng (hf i)) (sg0.ms (hf i))) (hp_ord N i b0 s0 (sg0.ng (2 ^ i : Nat)) (sg0.ms (2 ^ i : Nat)) (sg0.ng (hf i)) (sg0.ms (hf i))) (.exit 0)
      (sh_ord N N b0 s0 (sg0.ng (2 ^ N : Nat)) (sg0.ms (2 ^ N : Nat)) (sg0.ng (hf N)) (sg0.ms (hf N))) (hp_ord N N b0 s0 (sg0.ng (2 ^ N : Nat)) (sg0.ms (2 ^ N : Nat)) (sg0.ng (hf N)) (sg0.ms (hf N))) := by
  induction d with
  | zero =>
    intro i hi
    have : i = N := by omega
    subst this
    refine .last (step_ord ?_) (by intro h; cases h)
    rw [round_ord, dF (show ¬ ((i : Int) < i) by omega)]
    rfl
  | succ d ih =>
    intro i hi
    refine .more (step_ord ?_) (ih (i + 1) (by omega))
    have hb := bs_two (show i ≤ 480 by omega)
    have e : ((2 ^ i : Nat) : Int) + ((2 ^ i : Nat) : Int) = ((2 ^ (i + 1) : Nat) : Int) := by rw [← Int.natCast_add]; refine congrArg _ ?_; rw [Nat.pow_succ]; omega
    have e2 : hf (i + 1) = ((2 ^ i : Nat) : Int) := by unfold hf; rw [if_neg (by omega)]; rfl
    rw [round_ord, dT (show (i : Int) < N by omega), ok_ms (z := ((2 ^ i : Nat) : Int)) (by rw [Int.natAbs_natCast]; omega), val_ms, i64T (show -9223372036854775808 ≤ (i : Int) + 1 ∧ (i : Int) + 1 ≤ 9223372036854775807 by omega), e, e2]
    rfl
theorem loop_ord (n i : Int) (b0 : Bool) (s0 : ByteArray) (b1 : Bool) (s1 : ByteArray) (b2 : Bool) (s2 : ByteArray) (h : pre_ord n i b0 s0 b1 s1 b2 s2) : ∃ r : Int × Bool × ByteArray × Bool × ByteArray, LoopTo Try.prog (lb 7 p_ord) (sh_ord n i b0 s0 b1 s1 b2 s2) (hp_ord n i b0 s0 b1 s1 b2 s2) (.exit 0) (sh_ord n r.1 b0 s0 r.2.1 r.2.2.1 r.2.2.2.1 r.2.2.2.2) (hp_ord n r.1 b0 s0 r.2.1 r.2.2.1 r.2.2.2.1 r.2.2.2.2) ∧ post_ord n i b0 s0 b1 s1 b2 s2 r := by
  obtain ⟨N, rfl, hN, rfl, rfl, rfl, rfl, rfl⟩ := h
  refine ⟨((N : Int), sg0.ng (2 ^ N : Nat), sg0.ms (2 ^ N : Nat), sg0.ng (hf N), sg0.ms (hf N)), ord_go N hN b0 s0 N 0 (by omega), ?_⟩
  unfold post_ord
  rw [Int.toNat_natCast]
  exact ⟨rfl, rfl, rfl, rfl⟩
def told_ord (κ : Int → Int → Bool → ByteArray → Bool → ByteArray → Bool → ByteArray → Bool) (φ : Int → Int → Bool → ByteArray → Bool → ByteArray → Bool → ByteArray → Int × Bool × ByteArray × Bool × ByteArray) (T : List AV) (H : Hp) : Option (Bool × Ex × List AV × Hp) :=
  match lget T 9, lget T 11, lget T 12, lget T 99, lget T 100, H with
  | .ptr 0 0, .ptr 1 0, .ptr 2 0, .val (.int .i64 n), .val (.int .i64 i), [.row (.cells [.val (.bool b0), .val (.string s0)]) 23 .live, .row (.cells [.val (.bool b1), .val (.string s1)]) 23 .live, .row (.cells [.val (.bool b2), .val (.string s2)]) 23 .live] => bif T.length == 120 then some (κ n i b0 s0 b1 s1 b2 s2, .exit 0, sh_ord n ((φ n i b0 s0 b1 s1 b2 s2).1) b0 s0 ((φ n i b0 s0 b1 s1 b2 s2).2.1) ((φ n i b0 s0 b1 s1 b2 s2).2.2.1) ((φ n i b0 s0 b1 s1 b2 s2).2.2.2.1) ((φ n i b0 s0 b1 s1 b2 s2).2.2.2.2), hp_ord n ((φ n i b0 s0 b1 s1 b2 s2).1) b0 s0 ((φ n i b0 s0 b1 s1 b2 s2).2.1) ((φ n i b0 s0 b1 s1 b2 s2).2.2.1) ((φ n i b0 s0 b1 s1 b2 s2).2.2.2.1) ((φ n i b0 s0 b1 s1 b2 s2).2.2.2.2)) else none
  | _, _, _, _, _, _ => none
abbrev KT_ord : Type := Int → Int → Bool → ByteArray → Bool → ByteArray → Bool → ByteArray → Bool
abbrev FT_ord : Type := Int → Int → Bool → ByteArray → Bool → ByteArray → Bool → ByteArray → Int × Bool × ByteArray × Bool × ByteArray
def LL_ord (κ : KT_ord) (φ : FT_ord) (L : LTab) : LTab := addLn 0 7 p_ord [9, 11, 12, 99, 100] (told_ord κ φ) L
def phi_ord (n : Int) (i : Int) (b0 : Bool) (s0 : ByteArray) (b1 : Bool) (s1 : ByteArray) (b2 : Bool) (s2 : ByteArray) : Int × Bool × ByteArray × Bool × ByteArray := Classical.epsilon fun ρ => LoopTo Try.prog (lb 7 p_ord) (sh_ord n i b0 s0 b1 s1 b2 s2) (hp_ord n i b0 s0 b1 s1 b2 s2) (.exit 0) (sh_ord n (ρ.1) b0 s0 (ρ.2.1) (ρ.2.2.1) (ρ.2.2.2.1) (ρ.2.2.2.2)) (hp_ord n (ρ.1) b0 s0 (ρ.2.1) (ρ.2.2.1) (ρ.2.2.2.1) (ρ.2.2.2.2)) ∧ post_ord n i b0 s0 b1 s1 b2 s2 ρ
theorem phi_ord_spec (n : Int) (i : Int) (b0 : Bool) (s0 : ByteArray) (b1 : Bool) (s1 : ByteArray) (b2 : Bool) (s2 : ByteArray) (h : pre_ord n i b0 s0 b1 s1 b2 s2) : LoopTo Try.prog (lb 7 p_ord) (sh_ord n i b0 s0 b1 s1 b2 s2) (hp_ord n i b0 s0 b1 s1 b2 s2) (.exit 0) (sh_ord n ((phi_ord n i b0 s0 b1 s1 b2 s2).1) b0 s0 ((phi_ord n i b0 s0 b1 s1 b2 s2).2.1) ((phi_ord n i b0 s0 b1 s1 b2 s2).2.2.1) ((phi_ord n i b0 s0 b1 s1 b2 s2).2.2.2.1) ((phi_ord n i b0 s0 b1 s1 b2 s2).2.2.2.2)) (hp_ord n ((phi_ord n i b0 s0 b1 s1 b2 s2).1) b0 s0 ((phi_ord n i b0 s0 b1 s1 b2 s2).2.1) ((phi_ord n i b0 s0 b1 s1 b2 s2).2.2.1) ((phi_ord n i b0 s0 b1 s1 b2 s2).2.2.2.1) ((phi_ord n i b0 s0 b1 s1 b2 s2).2.2.2.2)) ∧ post_ord n i b0 s0 b1 s1 b2 s2 (phi_ord n i b0 s0 b1 s1 b2 s2) := Classical.epsilon_spec (loop_ord n i b0 s0 b1 s1 b2 s2 h)
def cond_ord (n : Int) (i : Int) (b0 : Bool) (s0 : ByteArray) (b1 : Bool) (s1 : ByteArray) (b2 : Bool) (s2 : ByteArray) : Bool := @decide (pre_ord n i b0 s0 b1 s1 b2 s2) (Classical.propDecidable _)
theorem cond_ord_eq (n : Int) (i : Int) (b0 : Bool) (s0 : ByteArray) (b1 : Bool) (s1 : ByteArray) (b2 : Bool) (s2 : ByteArray) (h : pre_ord n i b0 s0 b1 s1 b2 s2) : cond_ord n i b0 s0 b1 s1 b2 s2 = true := @decide_eq_true _ (Classical.propDecidable _) h
theorem told_ord_ok (T : List AV) (H : Hp) (e : Ex) (T1 : List AV) (H1 : Hp) (h : told_ord cond_ord phi_ord T H = some (true, e, T1, H1)) : V.Ends Try.prog false 0 0 (.loop (lb 7 p_ord)) T H e T1 H1 := by
  unfold told_ord at h
  split at h
  · rename_i n i b0 s0 b1 s1 b2 s2 h9 h11 h12 h99 h100
    rw [Bool.cond_eq_ite] at h
    split at h
    · rename_i hlen
      rw [beq_iff_eq] at hlen
      simp only [Option.some.injEq, Prod.mk.injEq, Bool.and_eq_true, decide_eq_true_eq] at h
      obtain ⟨k1, rfl, rfl, rfl⟩ := h
      have kc := @of_decide_eq_true _ (Classical.propDecidable _) k1
      refine Ends.pre (phi_ord_spec n i b0 s0 b1 s1 b2 s2 kc).1.ends (fun α B w D ys hr => slots_rel hlen (fun p hp y hy => ?_) hr)
      simp only [List.mem_cons, List.not_mem_nil, or_false] at hp
      rcases hp with rfl | rfl | rfl | rfl | rfl
      · rw [h9] at hy; exact hy
      · rw [h11] at hy; exact hy
      · rw [h12] at hy; exact hy
      · rw [h99] at hy; exact hy
      · rw [h100] at hy; exact hy
    · cases h
  · cases h
theorem LL_ord_ok {L : LTab} (h : LOk Try.prog L) : LOk Try.prog (LL_ord cond_ord phi_ord L) := h.add2n body_ord told_ord_ok
def COr (S : Sg) : FuncId → List AV → Option (Bool × AV) :=
  addC 16 (tAdd S) (addC 18 (tSub S) (addC 30 (tNeg S) (addC 28 (tCompare S) (addC 29 (tOf S) (addC 31 (tBits S) (addC 15 tAwake noC))))))
theorem COr_ok : Meets Try.prog (COr sg0) := (((((((meets_none _).add eAwake).add eBits).add eOf).add eCompare).add eNeg).add eSub).add eAdd
def EOr (S : Sg) (κ : KT_ord) (φ : FT_ord) : Env := ⟨COr S, fun _ => false, LL_ord κ φ noL⟩
theorem order_call (S : Sg) (κ : KT_ord) (φ : FT_ord) (b c d : Bool) (s t u : ByteArray) : callA Try.prog (EOr S κ φ) 10 10 7 [.agg [.val (.bool b), .val (.string s)], .agg [.val (.bool c), .val (.string t)], .agg [.val (.bool d), .val (.string u)]] =
    (bif decide ((60 : Int) < (↑s.size : Int)) then some (.val (.bool true)) else (bif decide ((60 : Int) < (↑t.size : Int)) then some (.val (.bool true)) else (bif decide ((60 : Int) < (↑u.size : Int)) then some (.val (.bool true)) else (bif S.ok s && S.ok t then (bif S.ok t && S.ok s then (bif !decide (S.cmz (S.val b s) (S.val c t) = IntKind.i64.wrap ((0 : Int) - S.cmz (S.val c t) (S.val b s))) then some (.val (.bool false)) else (bif decide (S.cmz (S.val b s) (S.val c t) < (-1 : Int)) then some (.val (.bool false)) else (bif decide ((1 : Int) < S.cmz (S.val b s) (S.val c t)) then some (.val (.bool false)) else (bif S.ok s && S.ok t then (bif S.ok (S.ms (S.val b s - S.val c t)) && S.ok (ByteArray.mk #[]) then (bif !decide (S.cmz (S.val b s) (S.val c t) = S.cmz (S.val (S.ng (S.val b s - S.val c t)) (S.ms (S.val b s - S.val c t))) (S.val false (ByteArray.mk #[]))) then some (.val (.bool false)) else (bif S.ok t then (bif S.ok s then (bif S.ok (S.ms (-S.val c t)) && S.ok (S.ms (-S.val b s)) then (bif !decide (S.cmz (S.val b s) (S.val c t) = S.cmz (S.val (S.ng (-S.val c t)) (S.ms (-S.val c t))) (S.val (S.ng (-S.val b s)) (S.ms (-S.val b s)))) then some (.val (.bool false)) else (bif S.ok s && S.ok u then (bif S.ok t && S.ok u then (bif S.ok (S.ms (S.val b s + S.val d u)) && S.ok (S.ms (S.val c t + S.val d u)) then (bif !decide (S.cmz (S.val b s) (S.val c t) = S.cmz (S.val (S.ng (S.val b s + S.val d u)) (S.ms (S.val b s + S.val d u))) (S.val (S.ng (S.val c t + S.val d u)) (S.ms (S.val c t + S.val d u)))) then some (.val (.bool false)) else (bif decide (S.cmz (S.val b s) (S.val c t) ≤ (0 : Int)) then (bif S.ok t && S.ok u then (bif decide (S.cmz (S.val c t) (S.val d u) ≤ (0 : Int)) then (bif S.ok s && S.ok u then (bif decide ((0 : Int) < S.cmz (S.val b s) (S.val d u)) then some (.val (.bool false)) else (bif S.ok s && S.ok (ByteArray.mk #[]) then (bif decide (S.cmz (S.val b s) (S.val false (ByteArray.mk #[])) < (0 : Int)) then (bif S.ok s then (bif S.ok s then (bif decide ((480 : Int) < (↑(S.bl (S.vs s)) : Int)) then some (.val (.bool false)) else (bif κ (↑(S.bl (S.vs s)) : Int) (0 : Int) (S.ng (-S.val b s)) (S.ms (-S.val b s)) (S.ng (1 : Int)) (S.ms (1 : Int)) false (ByteArray.mk #[]) then (bif S.ok (S.ms (-S.val b s)) && S.ok (φ (↑(S.bl (S.vs s)) : Int) (0 : Int) (S.ng (-S.val b s)) (S.ms (-S.val b s)) (S.ng (1 : Int)) (S.ms (1 : Int)) false (ByteArray.mk #[])).snd.snd.snd.snd then (bif decide ((0 : Int) ≤ S.cmz (S.val (S.ng (-S.val b s)) (S.ms (-S.val b s))) (S.val (φ (↑(S.bl (S.vs s)) : Int) (0 : Int) (S.ng (-S.val b s)) (S.ms (-S.val b s)) (S.ng (1 : Int)) (S.ms (1 : Int)) false (ByteArray.mk #[])).snd.snd.snd.fst (φ (↑(S.bl (S.vs s)) : Int) (0 : Int) (S.ng (-S.val b s)) (S.ms (-S.val b s)) (S.ng (1 : Int)) (S.ms (1 : Int)) false (ByteArray.mk #[])).snd.snd.snd.snd)) then (bif S.ok (S.ms (-S.val b s)) && S.ok (φ (↑(S.bl (S.vs s)) : Int) (0 : Int) (S.ng (-S.val b s)) (S.ms (-S.val b s)) (S.ng (1 : Int)) (S.ms (1 : Int)) false (ByteArray.mk #[])).snd.snd.fst then (bif decide (S.cmz (S.val (S.ng (-S.val b s)) (S.ms (-S.val b s))) (S.val (φ (↑(S.bl (S.vs s)) : Int) (0 : Int) (S.ng (-S.val b s)) (S.ms (-S.val b s)) (S.ng (1 : Int)) (S.ms (1 : Int)) false (ByteArray.mk #[])).snd.fst (φ (↑(S.bl (S.vs s)) : Int) (0 : Int) (S.ng (-S.val b s)) (S.ms (-S.val b s)) (S.ng (1 : Int)) (S.ms (1 : Int)) false (ByteArray.mk #[])).snd.snd.fst) < (0 : Int)) then some (.val (.bool true)) else some (.val (.bool false))) else none) else some (.val (.bool false))) else none) else none)) else none) else none) else (bif S.ok s then (bif decide ((480 : Int) < (↑(S.bl (S.vs s)) : Int)) then some (.val (.bool false)) else (bif κ (↑(S.bl (S.vs s)) : Int) (0 : Int) b s (S.ng (1 : Int)) (S.ms (1 : Int)) false (ByteArray.mk #[]) then (bif S.ok s && S.ok (φ (↑(S.bl (S.vs s)) : Int) (0 : Int) b s (S.ng (1 : Int)) (S.ms (1 : Int)) false (ByteArray.mk #[])).snd.snd.snd.snd then (bif decide ((0 : Int) ≤ S.cmz (S.val b s) (S.val (φ (↑(S.bl (S.vs s)) : Int) (0 : Int) b s (S.ng (1 : Int)) (S.ms (1 : Int)) false (ByteArray.mk #[])).snd.snd.snd.fst (φ (↑(S.bl (S.vs s)) : Int) (0 : Int) b s (S.ng (1 : Int)) (S.ms (1 : Int)) false (ByteArray.mk #[])).snd.snd.snd.snd)) then (bif S.ok s && S.ok (φ (↑(S.bl (S.vs s)) : Int) (0 : Int) b s (S.ng (1 : Int)) (S.ms (1 : Int)) false (ByteArray.mk #[])).snd.snd.fst then (bif decide (S.cmz (S.val b s) (S.val (φ (↑(S.bl (S.vs s)) : Int) (0 : Int) b s (S.ng (1 : Int)) (S.ms (1 : Int)) false (ByteArray.mk #[])).snd.fst (φ (↑(S.bl (S.vs s)) : Int) (0 : Int) b s (S.ng (1 : Int)) (S.ms (1 : Int)) false (ByteArray.mk #[])).snd.snd.fst) < (0 : Int)) then some (.val (.bool true)) else some (.val (.bool false))) else none) else some (.val (.bool false))) else none) else none)) else none)) else none)) else none) else (bif S.ok s && S.ok (ByteArray.mk #[]) then (bif decide (S.cmz (S.val b s) (S.val false (ByteArray.mk #[])) < (0 : Int)) then (bif S.ok s then (bif S.ok s then (bif decide ((480 : Int) < (↑(S.bl (S.vs s)) : Int)) then some (.val (.bool false)) else (bif κ (↑(S.bl (S.vs s)) : Int) (0 : Int) (S.ng (-S.val b s)) (S.ms (-S.val b s)) (S.ng (1 : Int)) (S.ms (1 : Int)) false (ByteArray.mk #[]) then (bif S.ok (S.ms (-S.val b s)) && S.ok (φ (↑(S.bl (S.vs s)) : Int) (0 : Int) (S.ng (-S.val b s)) (S.ms (-S.val b s)) (S.ng (1 : Int)) (S.ms (1 : Int)) false (ByteArray.mk #[])).snd.snd.snd.snd then (bif decide ((0 : Int) ≤ S.cmz (S.val (S.ng (-S.val b s)) (S.ms (-S.val b s))) (S.val (φ (↑(S.bl (S.vs s)) : Int) (0 : Int) (S.ng (-S.val b s)) (S.ms (-S.val b s)) (S.ng (1 : Int)) (S.ms (1 : Int)) false (ByteArray.mk #[])).snd.snd.snd.fst (φ (↑(S.bl (S.vs s)) : Int) (0 : Int) (S.ng (-S.val b s)) (S.ms (-S.val b s)) (S.ng (1 : Int)) (S.ms (1 : Int)) false (ByteArray.mk #[])).snd.snd.snd.snd)) then (bif S.ok (S.ms (-S.val b s)) && S.ok (φ (↑(S.bl (S.vs s)) : Int) (0 : Int) (S.ng (-S.val b s)) (S.ms (-S.val b s)) (S.ng (1 : Int)) (S.ms (1 : Int)) false (ByteArray.mk #[])).snd.snd.fst then (bif decide (S.cmz (S.val (S.ng (-S.val b s)) (S.ms (-S.val b s))) (S.val (φ (↑(S.bl (S.vs s)) : Int) (0 : Int) (S.ng (-S.val b s)) (S.ms (-S.val b s)) (S.ng (1 : Int)) (S.ms (1 : Int)) false (ByteArray.mk #[])).snd.fst (φ (↑(S.bl (S.vs s)) : Int) (0 : Int) (S.ng (-S.val b s)) (S.ms (-S.val b s)) (S.ng (1 : Int)) (S.ms (1 : Int)) false (ByteArray.mk #[])).snd.snd.fst) < (0 : Int)) then some (.val (.bool true)) else some (.val (.bool false))) else none) else some (.val (.bool false))) else none) else none)) else none) else none) else (bif S.ok s then (bif decide ((480 : Int) < (↑(S.bl (S.vs s)) : Int)) then some (.val (.bool false)) else (bif κ (↑(S.bl (S.vs s)) : Int) (0 : Int) b s (S.ng (1 : Int)) (S.ms (1 : Int)) false (ByteArray.mk #[]) then (bif S.ok s && S.ok (φ (↑(S.bl (S.vs s)) : Int) (0 : Int) b s (S.ng (1 : Int)) (S.ms (1 : Int)) false (ByteArray.mk #[])).snd.snd.snd.snd then (bif decide ((0 : Int) ≤ S.cmz (S.val b s) (S.val (φ (↑(S.bl (S.vs s)) : Int) (0 : Int) b s (S.ng (1 : Int)) (S.ms (1 : Int)) false (ByteArray.mk #[])).snd.snd.snd.fst (φ (↑(S.bl (S.vs s)) : Int) (0 : Int) b s (S.ng (1 : Int)) (S.ms (1 : Int)) false (ByteArray.mk #[])).snd.snd.snd.snd)) then (bif S.ok s && S.ok (φ (↑(S.bl (S.vs s)) : Int) (0 : Int) b s (S.ng (1 : Int)) (S.ms (1 : Int)) false (ByteArray.mk #[])).snd.snd.fst then (bif decide (S.cmz (S.val b s) (S.val (φ (↑(S.bl (S.vs s)) : Int) (0 : Int) b s (S.ng (1 : Int)) (S.ms (1 : Int)) false (ByteArray.mk #[])).snd.fst (φ (↑(S.bl (S.vs s)) : Int) (0 : Int) b s (S.ng (1 : Int)) (S.ms (1 : Int)) false (ByteArray.mk #[])).snd.snd.fst) < (0 : Int)) then some (.val (.bool true)) else some (.val (.bool false))) else none) else some (.val (.bool false))) else none) else none)) else none)) else none)) else none) else (bif S.ok s && S.ok (ByteArray.mk #[]) then (bif decide (S.cmz (S.val b s) (S.val false (ByteArray.mk #[])) < (0 : Int)) then (bif S.ok s then (bif S.ok s then (bif decide ((480 : Int) < (↑(S.bl (S.vs s)) : Int)) then some (.val (.bool false)) else (bif κ (↑(S.bl (S.vs s)) : Int) (0 : Int) (S.ng (-S.val b s)) (S.ms (-S.val b s)) (S.ng (1 : Int)) (S.ms (1 : Int)) false (ByteArray.mk #[]) then (bif S.ok (S.ms (-S.val b s)) && S.ok (φ (↑(S.bl (S.vs s)) : Int) (0 : Int) (S.ng (-S.val b s)) (S.ms (-S.val b s)) (S.ng (1 : Int)) (S.ms (1 : Int)) false (ByteArray.mk #[])).snd.snd.snd.snd then (bif decide ((0 : Int) ≤ S.cmz (S.val (S.ng (-S.val b s)) (S.ms (-S.val b s))) (S.val (φ (↑(S.bl (S.vs s)) : Int) (0 : Int) (S.ng (-S.val b s)) (S.ms (-S.val b s)) (S.ng (1 : Int)) (S.ms (1 : Int)) false (ByteArray.mk #[])).snd.snd.snd.fst (φ (↑(S.bl (S.vs s)) : Int) (0 : Int) (S.ng (-S.val b s)) (S.ms (-S.val b s)) (S.ng (1 : Int)) (S.ms (1 : Int)) false (ByteArray.mk #[])).snd.snd.snd.snd)) then (bif S.ok (S.ms (-S.val b s)) && S.ok (φ (↑(S.bl (S.vs s)) : Int) (0 : Int) (S.ng (-S.val b s)) (S.ms (-S.val b s)) (S.ng (1 : Int)) (S.ms (1 : Int)) false (ByteArray.mk #[])).snd.snd.fst then (bif decide (S.cmz (S.val (S.ng (-S.val b s)) (S.ms (-S.val b s))) (S.val (φ (↑(S.bl (S.vs s)) : Int) (0 : Int) (S.ng (-S.val b s)) (S.ms (-S.val b s)) (S.ng (1 : Int)) (S.ms (1 : Int)) false (ByteArray.mk #[])).snd.fst (φ (↑(S.bl (S.vs s)) : Int) (0 : Int) (S.ng (-S.val b s)) (S.ms (-S.val b s)) (S.ng (1 : Int)) (S.ms (1 : Int)) false (ByteArray.mk #[])).snd.snd.fst) < (0 : Int)) then some (.val (.bool true)) else some (.val (.bool false))) else none) else some (.val (.bool false))) else none) else none)) else none) else none) else (bif S.ok s then (bif decide ((480 : Int) < (↑(S.bl (S.vs s)) : Int)) then some (.val (.bool false)) else (bif κ (↑(S.bl (S.vs s)) : Int) (0 : Int) b s (S.ng (1 : Int)) (S.ms (1 : Int)) false (ByteArray.mk #[]) then (bif S.ok s && S.ok (φ (↑(S.bl (S.vs s)) : Int) (0 : Int) b s (S.ng (1 : Int)) (S.ms (1 : Int)) false (ByteArray.mk #[])).snd.snd.snd.snd then (bif decide ((0 : Int) ≤ S.cmz (S.val b s) (S.val (φ (↑(S.bl (S.vs s)) : Int) (0 : Int) b s (S.ng (1 : Int)) (S.ms (1 : Int)) false (ByteArray.mk #[])).snd.snd.snd.fst (φ (↑(S.bl (S.vs s)) : Int) (0 : Int) b s (S.ng (1 : Int)) (S.ms (1 : Int)) false (ByteArray.mk #[])).snd.snd.snd.snd)) then (bif S.ok s && S.ok (φ (↑(S.bl (S.vs s)) : Int) (0 : Int) b s (S.ng (1 : Int)) (S.ms (1 : Int)) false (ByteArray.mk #[])).snd.snd.fst then (bif decide (S.cmz (S.val b s) (S.val (φ (↑(S.bl (S.vs s)) : Int) (0 : Int) b s (S.ng (1 : Int)) (S.ms (1 : Int)) false (ByteArray.mk #[])).snd.fst (φ (↑(S.bl (S.vs s)) : Int) (0 : Int) b s (S.ng (1 : Int)) (S.ms (1 : Int)) false (ByteArray.mk #[])).snd.snd.fst) < (0 : Int)) then some (.val (.bool true)) else some (.val (.bool false))) else none) else some (.val (.bool false))) else none) else none)) else none)) else none))) else none) else none) else none)) else none) else none) else none)) else none) else none)))) else none) else none)))) := by kernel_rfl
end
end Go.Proofs.Ytlpfnbopmigefaa.L

/- BigintOrder holds. -/
set_option linter.unusedVariables false
set_option linter.unusedSimpArgs false
namespace Go.Proofs.Ytlpfnbopmigefaa.L
open Go Go.V Go.RowKit Go.Proofs.Ytlpfnbopmigefaa.Sp Go.Proofs.Ytlpfnbopmigefaa.F
open Go.Proofs (Try.prog)
noncomputable section
theorem cz_swap (x y : Int) : sg0.cmz x y = IntKind.i64.wrap (0 - sg0.cmz y x) := by
  show cmpZ x y = IntKind.i64.wrap (0 - cmpZ y x)
  rw [IntKind.wrap_i64]
  unfold cmpZ
  split <;> split <;> (try split) <;> omega
theorem cz_lo (x y : Int) : ¬ sg0.cmz x y < -1 := by
  show ¬ cmpZ x y < -1
  unfold cmpZ
  split <;> (try split) <;> omega
theorem cz_hi (x y : Int) : ¬ 1 < sg0.cmz x y := by
  show ¬ 1 < cmpZ x y
  unfold cmpZ
  split <;> (try split) <;> omega
theorem cz_sub (x y : Int) : sg0.cmz x y = sg0.cmz (x - y) 0 := by
  show cmpZ x y = cmpZ (x - y) 0
  unfold cmpZ
  split <;> split <;> (try split) <;> (try split) <;> omega
theorem cz_neg (x y : Int) : sg0.cmz x y = sg0.cmz (-y) (-x) := by
  show cmpZ x y = cmpZ (-y) (-x)
  unfold cmpZ
  split <;> split <;> (try split) <;> (try split) <;> omega
theorem cz_add (x y z : Int) : sg0.cmz x y = sg0.cmz (x + z) (y + z) := by
  show cmpZ x y = cmpZ (x + z) (y + z)
  unfold cmpZ
  split <;> split <;> (try split) <;> (try split) <;> omega
theorem cz_le (x y : Int) : sg0.cmz x y ≤ 0 ↔ x ≤ y := by
  show cmpZ x y ≤ 0 ↔ _
  unfold cmpZ
  split <;> (try split) <;> omega
theorem cz_lt (x y : Int) : sg0.cmz x y < 0 ↔ x < y := by
  show cmpZ x y < 0 ↔ _
  unfold cmpZ
  split <;> (try split) <;> omega
theorem cz_gt (x y : Int) : 0 < sg0.cmz x y ↔ y < x := by
  show 0 < cmpZ x y ↔ _
  unfold cmpZ
  split <;> (try split) <;> omega
theorem cz_ge (x y : Int) : 0 ≤ sg0.cmz x y ↔ y ≤ x := by
  show 0 ≤ cmpZ x y ↔ _
  unfold cmpZ
  split <;> (try split) <;> omega
theorem order_true (b c d : Bool) (s t u : ByteArray) : callA Try.prog (EOr sg0 cond_ord phi_ord) 10 10 7 [.agg [.val (.bool b), .val (.string s)], .agg [.val (.bool c), .val (.string t)], .agg [.val (.bool d), .val (.string u)]] = some (.val (.bool true)) := by
  rw [order_call]
  by_cases h1 : (60 : Int) < s.size
  · rw [dT h1]; rfl
  by_cases h2 : (60 : Int) < t.size
  · rw [dF h1, dT h2]; rfl
  by_cases h3 : (60 : Int) < u.size
  · rw [dF h1, dF h2, dT h3]; rfl
  rw [dF h1, dF h2, dF h3]
  have os := ok_small (s := s) (by omega)
  have ot := ok_small (s := t) (by omega)
  have ou := ok_small (s := u) (by omega)
  have bx := bs_val b s
  have by_ := bs_val c t
  have bz := bs_val d u
  have hvs := vs_val b s
  have hlen : sg0.vs s < 2 ^ (8 * s.size) := by rw [← pow256]; exact vS_lt s
  have hN : sg0.bl (sg0.vs s) ≤ 480 := by have := bl_le _ _ hlen; omega
  obtain ⟨hl1, hl2⟩ := blen_is (sg0.vs s)
  have hbl : blen (sg0.vs s) = sg0.bl (sg0.vs s) := rfl
  rw [hbl] at hl1 hl2
  have fin : ∀ (b0 : Bool) (s0 : ByteArray), ∃ r : Int × Bool × ByteArray × Bool × ByteArray, phi_ord (sg0.bl (sg0.vs s)) 0 b0 s0 (sg0.ng 1) (sg0.ms 1) false (ByteArray.mk #[]) = r ∧ cond_ord (sg0.bl (sg0.vs s)) 0 b0 s0 (sg0.ng 1) (sg0.ms 1) false (ByteArray.mk #[]) = true ∧ sg0.ok r.2.2.1 = true ∧ sg0.ok r.2.2.2.2 = true ∧ sg0.val r.2.1 r.2.2.1 = ((2 ^ sg0.bl (sg0.vs s) : Nat) : Int) ∧ sg0.val r.2.2.2.1 r.2.2.2.2 = hf (sg0.bl (sg0.vs s)) := by
    intro b0 s0
    have hp : pre_ord (sg0.bl (sg0.vs s)) 0 b0 s0 (sg0.ng 1) (sg0.ms 1) false (ByteArray.mk #[]) := ⟨_, rfl, hN, rfl, rfl, rfl, rfl, ms_zero.symm⟩
    obtain ⟨_, c1, c2, c3, c4⟩ := phi_ord_spec _ _ _ _ _ _ _ _ hp
    rw [Int.toNat_natCast] at c1 c2 c3 c4
    have q1 := bs_two hN
    refine ⟨_, rfl, cond_ord_eq _ _ _ _ _ _ _ _ hp, ?_, ?_, ?_, ?_⟩
    · rw [c2]; exact ok_ms (by rw [Int.natAbs_natCast]; omega)
    · rw [c4]; refine ok_ms ?_
      unfold hf
      split
      · rw [show bs (0 : Int).natAbs = 0 from by unfold bs; rw [show (0 : Int).natAbs = 0 from rfl, toB_zero]; rfl]; omega
      · rw [Int.natAbs_natCast]; have := bs_two (show sg0.bl (sg0.vs s) - 1 ≤ 480 by omega); omega
    · rw [c1, c2, val_ms]
    · rw [c3, c4, val_ms]
  have key : ∀ A : Int, A.natAbs = sg0.vs s → 0 ≤ A → hf (sg0.bl (sg0.vs s)) ≤ A ∧ A < ((2 ^ sg0.bl (sg0.vs s) : Nat) : Int) := by
    intro A hA h0
    constructor
    · unfold hf
      split
      · exact h0
      · have := hl2 (by omega); omega
    · omega
  simp only [val_ms, os, ot, ou, ok_nil, val_nil]
  generalize hX : sg0.val b s = x at *
  generalize sg0.val c t = y at *
  generalize sg0.val d u = z at *
  have q1 := bs_zadd x z
  have q2 := bs_zadd y z
  have q6 := bs_zsub x y
  have q7 := bs_neg x
  have q8 := bs_neg y
  rw [dT (cz_swap x y), dF (cz_lo x y), dF (cz_hi x y), ok_ms (z := x - y) (by omega), dT (cz_sub x y), ok_ms (z := -y) (by omega), ok_ms (z := -x) (by omega), dT (cz_neg x y), ok_ms (z := x + z) (by omega), ok_ms (z := y + z) (by omega), dT (cz_add x y z), dF (show ¬ (480 : Int) < (sg0.bl (sg0.vs s) : Int) by omega)]
  by_cases e0 : x < 0
  · obtain ⟨r, g1, g2, g3, g4, g5, g6⟩ := fin (sg0.ng (-x)) (sg0.ms (-x))
    obtain ⟨k1, k2⟩ := key (-x) (by rw [Int.natAbs_neg]; exact hvs.symm) (by omega)
    have w1 := (cz_lt x 0).2 e0
    rw [g2, g1, g3, g4, g5, g6]
    simp only [w1, decide_true]
    rw [dT ((cz_ge _ _).2 k1), dT ((cz_lt _ _).2 k2)]
    by_cases e1 : x ≤ y
    · by_cases e2 : y ≤ z
      · rw [dT ((cz_le x y).2 e1), dT ((cz_le y z).2 e2), dF (fun h => by have := (cz_gt x z).1 h; omega)]
        rfl
      · rw [dT ((cz_le x y).2 e1), dF (fun h => e2 ((cz_le y z).1 h))]
        rfl
    · rw [dF (fun h => e1 ((cz_le x y).1 h))]
      rfl
  · obtain ⟨r, g1, g2, g3, g4, g5, g6⟩ := fin b s
    obtain ⟨k1, k2⟩ := key x hvs.symm (by omega)
    have w1 : ¬ sg0.cmz x 0 < 0 := fun h => e0 ((cz_lt x 0).1 h)
    rw [g2, g1, g3, g4, g5, g6]
    simp only [w1, decide_false]
    rw [dT ((cz_ge _ _).2 k1), dT ((cz_lt _ _).2 k2)]
    by_cases e1 : x ≤ y
    · by_cases e2 : y ≤ z
      · rw [dT ((cz_le x y).2 e1), dT ((cz_le y z).2 e2), dF (fun h => by have := (cz_gt x z).1 h; omega)]
        rfl
      · rw [dT ((cz_le x y).2 e1), dF (fun h => e2 ((cz_le y z).1 h))]
        rfl
    · rw [dF (fun h => e1 ((cz_le x y).1 h))]
      rfl
theorem order_walk (b : Bool) (s : ByteArray) (c : Bool) (t : ByteArray) (d : Bool) (u : ByteArray) (W : World) : Calls Try.prog 7 #[.agg #[.bool b, .string s], .agg #[.bool c, .string t], .agg #[.bool d, .string u]] W fun e w' => e = .returned (.bool true) ∧ Below W.heap.size W w' :=
  law_walk COr_ok (LL_ord_ok LOk.none).ok (by kernel_rfl) (order_true b c d s t u) W ⟨_, _, rfl, arg_int _ _ b s, _, _, rfl, arg_int _ _ c t, _, _, rfl, arg_int _ _ d u, rfl⟩
end
end Go.Proofs.Ytlpfnbopmigefaa.L
