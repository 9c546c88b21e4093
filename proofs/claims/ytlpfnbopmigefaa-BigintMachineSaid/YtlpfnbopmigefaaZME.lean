/- Small, told. -/
import Derived.Test.YtlpfnbopmigefaaZMD
set_option linter.unusedVariables false
set_option linter.unusedSimpArgs false

/- Small, told. -/
set_option linter.unusedVariables false
set_option linter.unusedSimpArgs false
namespace Go.Proofs.Ytlpfnbopmigefaa.L
open Go Go.V Go.RowKit Go.Proofs.Ytlpfnbopmigefaa.Sp Go.Proofs.Ytlpfnbopmigefaa.F Go.Proofs.YtlpfnbopmigefaaW.PrintWords
open Go.Proofs (Try.prog)
noncomputable section
def CSm (S : Sg) : FuncId → List AV → Option (Bool × AV) := addC 47 (tLoad S) noC
theorem CSm_ok : Meets Try.prog (CSm sg0) := (meets_none _).add eLoad
abbrev p_sm : List Bool := [false, true, false, true, true, true, true]
def sh_sm (u : Int) (xs : List Int) (n : Int) (i : Int) (b : Bool) (s : ByteArray) : List AV := slots 49 [(1, .ptr 0 0), (5, .val (.int .u64 u)), (14, .lst false 64 xs.length (lim xs)), (15, .val (.int .i64 n)), (16, .val (.int .i64 i))]
def hp_sm (u : Int) (xs : List Int) (n : Int) (i : Int) (b : Bool) (s : ByteArray) : Hp := [.row (.cells [.val (.bool b), .val (.string s)]) 23 .live]
theorem body_sm : subC Try.prog 33 p_sm = some (.loop (lb 33 p_sm)) := by kernel_rfl
theorem code_sm : subC Try.prog 33 (false :: p_sm) = some (lb 33 p_sm) := by kernel_rfl
theorem round_sm  (u : Int) (xs : List Int) (n : Int) (i : Int) (b : Bool) (s : ByteArray) : roundA Try.prog EL0 33 [1, 5, 14, 15, 16] (lb 33 p_sm) (false :: p_sm) (sh_sm u xs n i b s) (hp_sm u xs n i b s) =
    (bif decide (i < n) then (bif decide ((0 : Int) ≤ i) && decide (i < (↑xs.length : Int)) then (bif inR IntKind.u64 (xs.getD i.toNat (0 : Int)) then (bif inR IntKind.i64 ((32 : Int) * i) then (bif decide ((32 : Int) * i < (0 : Int)) then none else (bif inR IntKind.i64 (i + (1 : Int)) then some (.normal, slots 49 [(1, (.ptr 0 0)), (5, (.val (.int .u64 (bitI BinOp.or IntKind.u64 u (IntKind.u64.wrap (xs.getD i.toNat (0 : Int) * (2 : Int) ^ min ((32 : Int) * i).toNat (64 : Nat))))))), (14, (.lst false 64 xs.length (lim xs))), (15, (.val (.int .i64 n))), (16, (.val (.int .i64 (i + (1 : Int)))))], [(.row (.cells [(.val (.bool b)), (.val (.string s))]) 23 .live)]) else none)) else none) else none) else none) else some ((.exit 0), slots 49 [(1, (.ptr 0 0)), (5, (.val (.int .u64 u))), (14, (.lst false 64 xs.length (lim xs))), (15, (.val (.int .i64 n))), (16, (.val (.int .i64 i)))], [(.row (.cells [(.val (.bool b)), (.val (.string s))]) 23 .live)])) := by kernel_rfl
theorem step_sm {u : Int} {xs : List Int} {n : Int} {i : Int} {b : Bool} {s : ByteArray} {e : Ex} {T : List AV} {H : Hp} (h : roundA Try.prog EL0 33 [1, 5, 14, 15, 16] (lb 33 p_sm) (false :: p_sm) (sh_sm u xs n i b s) (hp_sm u xs n i b s) = some (e, T, H)) : V.Ends Try.prog false 0 0 (lb 33 p_sm) (sh_sm u xs n i b s) (hp_sm u xs n i b s) e T H :=
  round_ends (meets_none _) loops_none mixed code_sm h
def pre_sm (u : Int) (xs : List Int) (n i : Int) (b : Bool) (s : ByteArray) : Prop := okL xs ∧ xs.length ≤ 2 ∧ n = xs.length ∧ u = 0 ∧ i = 0
def post_sm (u : Int) (xs : List Int) (n i : Int) (b : Bool) (s : ByteArray) (r : Int × Int) : Prop := r.1 = (vL xs : Nat)
theorem or_lo (u c : Nat) (hu : u < 4294967296) (hc : c < 4294967296) : bitI .or .u64 (u : Int) (IntKind.u64.wrap ((c : Int) * 2 ^ min ((32 : Int) * 1).toNat (64 : Nat))) = ((u + c * 4294967296 : Nat) : Int) := by
  have e : IntKind.u64.wrap ((c : Int) * 2 ^ min ((32 : Int) * 1).toNat (64 : Nat)) = ((c * 4294967296 : Nat) : Int) := by
    have e1 : (c : Int) * 2 ^ min ((32 : Int) * 1).toNat (64 : Nat) = ((c * 4294967296 : Nat) : Int) := by rw [Int.natCast_mul]; rfl
    rw [e1, u64n (by omega)]
  rw [e]
  have e2 := u64_or_nat u (c * 4294967296) (by omega) (by omega)
  have e3 : bitI .or .u64 (u : Int) ((c * 4294967296 : Nat) : Int) = _ := e2
  rw [e3, Nat.or_comm, nat_join 32 _ _ (by omega) (by omega), Nat.add_comm]
theorem or_lo0 (c : Nat) (hc : c < 4294967296) : bitI .or .u64 (0 : Int) (IntKind.u64.wrap ((c : Int) * 2 ^ min ((32 : Int) * 0).toNat (64 : Nat))) = ((c : Nat) : Int) := by
  have e : IntKind.u64.wrap ((c : Int) * 2 ^ min ((32 : Int) * 0).toNat (64 : Nat)) = ((c : Nat) : Int) := by
    have e1 : (c : Int) * 2 ^ min ((32 : Int) * 0).toNat (64 : Nat) = ((c : Nat) : Int) := by show (c : Int) * 1 = _; omega
    rw [e1, u64n (by omega)]
  rw [e]
  have e2 := u64_or_nat 0 c (by omega) (by omega)
  have e3 : bitI .or .u64 (0 : Int) ((c : Nat) : Int) = _ := e2
  rw [e3, Nat.zero_or]
theorem sm_last (u : Int) (xs : List Int) (i : Int) (b : Bool) (s : ByteArray) (h : i = xs.length) : LoopTo Try.prog (lb 33 p_sm) (sh_sm u xs xs.length i b s) (hp_sm u xs xs.length i b s) (.exit 0) (sh_sm u xs xs.length i b s) (hp_sm u xs xs.length i b s) := by
  refine .last (step_sm ?_) (by intro h; cases h)
  rw [round_sm, dF (show ¬ i < (xs.length : Int) by omega)]
  rfl
theorem loop_sm (u : Int) (xs : List Int) (n i : Int) (b : Bool) (s : ByteArray) (h : pre_sm u xs n i b s) : ∃ r : Int × Int, LoopTo Try.prog (lb 33 p_sm) (sh_sm u xs n i b s) (hp_sm u xs n i b s) (.exit 0) (sh_sm r.1 xs n r.2 b s) (hp_sm r.1 xs n r.2 b s) ∧ post_sm u xs n i b s r := by
  obtain ⟨h1, h2, rfl, rfl, rfl⟩ := h
  unfold post_sm
  match xs, h1, h2 with
  | [], _, _ => exact ⟨(0, 0), sm_last 0 [] 0 b s rfl, rfl⟩
  | [a], h1, _ =>
    have ha := (okL_cons.1 h1).1
    obtain ⟨a', rfl⟩ := Int.eq_ofNat_of_zero_le ha.1
    refine ⟨((a' : Int), 1), .more (step_sm ?_) (sm_last (a' : Int) [(a' : Int)] 1 b s rfl), by rw [vL_cons, vL_nil]; simp⟩
    rw [round_sm]
    rw [dT (show (0 : Int) < (([(a' : Int)] : List Int).length : Int) by show (0 : Int) < 1; decide), show ([(a' : Int)] : List Int).getD (0 : Int).toNat 0 = (a' : Int) from rfl, or_lo0 a' (by omega), u64T (by omega)]
    rfl
  | [a, c], h1, _ =>
    have ha := (okL_cons.1 h1).1
    have hc := (okL_cons.1 (okL_cons.1 h1).2).1
    obtain ⟨a', rfl⟩ := Int.eq_ofNat_of_zero_le ha.1
    obtain ⟨c', rfl⟩ := Int.eq_ofNat_of_zero_le hc.1
    have l1 := step_sm (u := 0) (xs := [(a' : Int), (c' : Int)]) (n := (([(a' : Int), (c' : Int)] : List Int).length : Int)) (i := 0) (b := b) (s := s) (e := .normal) (T := sh_sm (a' : Int) [(a' : Int), (c' : Int)] (([(a' : Int), (c' : Int)] : List Int).length : Int) 1 b s) (H := hp_sm (a' : Int) [(a' : Int), (c' : Int)] (([(a' : Int), (c' : Int)] : List Int).length : Int) 1 b s) (by
      rw [round_sm]
      rw [dT (show (0 : Int) < (([(a' : Int), (c' : Int)] : List Int).length : Int) by show (0 : Int) < 2; decide), show ([(a' : Int), (c' : Int)] : List Int).getD (0 : Int).toNat 0 = (a' : Int) from rfl, or_lo0 a' (by omega), u64T (by omega)]
      rfl)
    have l2 := step_sm (u := (a' : Int)) (xs := [(a' : Int), (c' : Int)]) (n := (([(a' : Int), (c' : Int)] : List Int).length : Int)) (i := 1) (b := b) (s := s) (e := .normal) (T := sh_sm ((a' + c' * 4294967296 : Nat) : Int) [(a' : Int), (c' : Int)] (([(a' : Int), (c' : Int)] : List Int).length : Int) 2 b s) (H := hp_sm ((a' + c' * 4294967296 : Nat) : Int) [(a' : Int), (c' : Int)] (([(a' : Int), (c' : Int)] : List Int).length : Int) 2 b s) (by
      rw [round_sm]
      rw [dT (show (1 : Int) < (([(a' : Int), (c' : Int)] : List Int).length : Int) by show (1 : Int) < 2; decide), show ([(a' : Int), (c' : Int)] : List Int).getD (1 : Int).toNat 0 = (c' : Int) from rfl, or_lo a' c' (by omega) (by omega), u64T (by omega)]
      rfl)
    refine ⟨(((a' + c' * 4294967296 : Nat) : Int), 2), .more l1 (.more l2 (sm_last _ [(a' : Int), (c' : Int)] 2 b s rfl)), ?_⟩
    rw [vL_cons, vL_cons, vL_nil, Int.toNat_natCast, Int.toNat_natCast]
    show ((a' + c' * 4294967296 : Nat) : Int) = _
    omega
  | _ :: _ :: _ :: _, _, h2 => exact absurd h2 (by simp)
def told_sm (κ : Int → List Int → Int → Int → Bool → ByteArray → Bool) (φ : Int → List Int → Int → Int → Bool → ByteArray → Int × Int) (T : List AV) (H : Hp) : Option (Bool × Ex × List AV × Hp) :=
  match lget T 1, lget T 5, lget T 14, lget T 15, lget T 16, H with
  | .ptr 0 0, .val (.int .u64 u), .lst false 64 m_xs f_xs, .val (.int .i64 n), .val (.int .i64 i), [.row (.cells [.val (.bool b), .val (.string s)]) 23 .live] => bif T.length == 49 then some (okB m_xs f_xs && κ u (rowOf m_xs f_xs) n i b s, .exit 0, sh_sm ((φ u (rowOf m_xs f_xs) n i b s).1) (rowOf m_xs f_xs) n ((φ u (rowOf m_xs f_xs) n i b s).2) b s, hp_sm ((φ u (rowOf m_xs f_xs) n i b s).1) (rowOf m_xs f_xs) n ((φ u (rowOf m_xs f_xs) n i b s).2) b s) else none
  | _, _, _, _, _, _ => none
abbrev KT_sm : Type := Int → List Int → Int → Int → Bool → ByteArray → Bool
abbrev FT_sm : Type := Int → List Int → Int → Int → Bool → ByteArray → Int × Int
def LL_sm (κ : KT_sm) (φ : FT_sm) (L : LTab) : LTab := addLn 0 33 p_sm [1, 5, 14, 15, 16] (told_sm κ φ) L
def phi_sm (u : Int) (xs : List Int) (n : Int) (i : Int) (b : Bool) (s : ByteArray) : Int × Int := Classical.epsilon fun ρ => LoopTo Try.prog (lb 33 p_sm) (sh_sm u xs n i b s) (hp_sm u xs n i b s) (.exit 0) (sh_sm (ρ.1) xs n (ρ.2) b s) (hp_sm (ρ.1) xs n (ρ.2) b s) ∧ post_sm u xs n i b s ρ
theorem phi_sm_spec (u : Int) (xs : List Int) (n : Int) (i : Int) (b : Bool) (s : ByteArray) (h : pre_sm u xs n i b s) : LoopTo Try.prog (lb 33 p_sm) (sh_sm u xs n i b s) (hp_sm u xs n i b s) (.exit 0) (sh_sm ((phi_sm u xs n i b s).1) xs n ((phi_sm u xs n i b s).2) b s) (hp_sm ((phi_sm u xs n i b s).1) xs n ((phi_sm u xs n i b s).2) b s) ∧ post_sm u xs n i b s (phi_sm u xs n i b s) := Classical.epsilon_spec (loop_sm u xs n i b s h)
def cond_sm (u : Int) (xs : List Int) (n : Int) (i : Int) (b : Bool) (s : ByteArray) : Bool := @decide (pre_sm u xs n i b s) (Classical.propDecidable _)
theorem cond_sm_eq (u : Int) (xs : List Int) (n : Int) (i : Int) (b : Bool) (s : ByteArray) (h : pre_sm u xs n i b s) : cond_sm u xs n i b s = true := @decide_eq_true _ (Classical.propDecidable _) h
theorem told_sm_ok (T : List AV) (H : Hp) (e : Ex) (T1 : List AV) (H1 : Hp) (h : told_sm cond_sm phi_sm T H = some (true, e, T1, H1)) : V.Ends Try.prog false 0 0 (.loop (lb 33 p_sm)) T H e T1 H1 := by
  unfold told_sm at h
  split at h
  · rename_i u m_xs f_xs n i b s h1 h5 h14 h15 h16
    rw [Bool.cond_eq_ite] at h
    split at h
    · rename_i hlen
      rw [beq_iff_eq] at hlen
      simp only [Option.some.injEq, Prod.mk.injEq, Bool.and_eq_true, decide_eq_true_eq] at h
      obtain ⟨⟨k1, k2⟩, rfl, rfl, rfl⟩ := h
      have kc := @of_decide_eq_true _ (Classical.propDecidable _) k2
      refine Ends.pre (phi_sm_spec u (rowOf m_xs f_xs) n i b s kc).1.ends (fun α B w D ys hr => slots_rel hlen (fun p hp y hy => ?_) hr)
      simp only [List.mem_cons, List.not_mem_nil, or_false] at hp
      rcases hp with rfl | rfl | rfl | rfl | rfl
      · rw [h1] at hy; exact hy
      · rw [h5] at hy; exact hy
      · rw [h14] at hy; rw [rowOf_len]; exact row_norm cells64 k1 hy
      · rw [h15] at hy; exact hy
      · rw [h16] at hy; exact hy
    · cases h
  · cases h
theorem LL_sm_ok {L : LTab} (h : LOk Try.prog L) : LOk Try.prog (LL_sm cond_sm phi_sm L) := h.add2n body_sm told_sm_ok
theorem small_call (S : Sg) (κ : KT_sm) (φ : FT_sm) (b : Bool) (s : ByteArray) : callA Try.prog ⟨CSm S, Kall, LL_sm κ φ noL⟩ 10 10 33 [.agg [.val (.bool b), .val (.string s)]] =
    (bif S.ok s then (bif decide ((2 : Int) < (↑(S.len (S.vs s)) : Int)) then some (.tup [(.val (.int .i64 0)), (.val (.bool false))]) else (bif okB (S.len (S.vs s)) (S.row (S.vs s)) && κ (0 : Int) (rowOf (S.len (S.vs s)) (S.row (S.vs s))) (↑(S.len (S.vs s)) : Int) (0 : Int) b s then (bif b then (bif decide ((φ (0 : Int) (rowOf (S.len (S.vs s)) (S.row (S.vs s))) (↑(S.len (S.vs s)) : Int) (0 : Int) b s).fst ≤ (9223372036854775808 : Int)) then some (.tup [(.val (.int .i64 (IntKind.i64.wrap (IntKind.u64.wrap ((0 : Int) - (φ (0 : Int) (rowOf (S.len (S.vs s)) (S.row (S.vs s))) (↑(S.len (S.vs s)) : Int) (0 : Int) b s).fst))))), (.val (.bool true))]) else (bif !b then (bif decide ((φ (0 : Int) (rowOf (S.len (S.vs s)) (S.row (S.vs s))) (↑(S.len (S.vs s)) : Int) (0 : Int) b s).fst < (9223372036854775808 : Int)) then some (.tup [(.val (.int .i64 (IntKind.i64.wrap (φ (0 : Int) (rowOf (S.len (S.vs s)) (S.row (S.vs s))) (↑(S.len (S.vs s)) : Int) (0 : Int) b s).fst))), (.val (.bool true))]) else some (.tup [(.val (.int .i64 0)), (.val (.bool false))])) else some (.tup [(.val (.int .i64 0)), (.val (.bool false))]))) else (bif !b then (bif decide ((φ (0 : Int) (rowOf (S.len (S.vs s)) (S.row (S.vs s))) (↑(S.len (S.vs s)) : Int) (0 : Int) b s).fst < (9223372036854775808 : Int)) then some (.tup [(.val (.int .i64 (IntKind.i64.wrap (φ (0 : Int) (rowOf (S.len (S.vs s)) (S.row (S.vs s))) (↑(S.len (S.vs s)) : Int) (0 : Int) b s).fst))), (.val (.bool true))]) else some (.tup [(.val (.int .i64 0)), (.val (.bool false))])) else some (.tup [(.val (.int .i64 0)), (.val (.bool false))]))) else none)) else none) := by kernel_rfl
theorem eSmall : Entry Try.prog 33 (tSmall sg0 xg0) := by
  refine entry_of (E := ⟨CSm sg0, Kall, LL_sm cond_sm phi_sm noL⟩) (u := 10) (d := 10) CSm_ok (LL_sm_ok LOk.none).ok mixed (by kernel_rfl) (fun args r h => ?_)
  unfold tSmall at h
  split at h
  · rename_i b s
    simp only [Option.some.injEq, Prod.mk.injEq] at h
    obtain ⟨h1, rfl⟩ := h
    have hcall := small_call sg0 cond_sm phi_sm b s
    rw [h1] at hcall
    have er : rowOf (sg0.len (sg0.vs s)) (sg0.row (sg0.vs s)) = toL (sg0.vs s) := rowOf_enc _
    have eo : okB (sg0.len (sg0.vs s)) (sg0.row (sg0.vs s)) = true := okB_enc _
    have hv : sg0.val b s = sg0.sg b (sg0.vs s) := rfl
    have hs : xg0.sv (sg0.val b s) = if -9223372036854775808 ≤ sg0.val b s ∧ sg0.val b s < 9223372036854775808 then sg0.val b s else 0 := rfl
    have hb : xg0.sb (sg0.val b s) = decide (-9223372036854775808 ≤ sg0.val b s ∧ sg0.val b s < 9223372036854775808) := rfl
    have t1 : ∀ k : Nat, sg0.sg true k = -(k : Int) := fun k => rfl
    have t2 : ∀ k : Nat, sg0.sg false k = (k : Int) := fun k => rfl
    rw [hs, hb, hv]
    rw [er, eo] at hcall
    generalize hN : sg0.vs s = N at *
    by_cases h2 : (2 : Int) < (sg0.len N : Int)
    · have hbig : ¬ N < 18446744073709551616 := by
        intro hlt
        have h3 : (toL N).length ≤ 2 := len_toL_le (show N < 4294967296 ^ 2 from hlt)
        have h4 : sg0.len N = (toL N).length := rfl
        omega
      rw [dT h2] at hcall
      rw [hcall]
      cases b
      · rw [t2, if_neg (by omega), dF (show ¬ (-9223372036854775808 ≤ (N : Int) ∧ (N : Int) < 9223372036854775808) by omega)]; rfl
      · rw [t1, if_neg (by omega), dF (show ¬ (-9223372036854775808 ≤ -(N : Int) ∧ -(N : Int) < 9223372036854775808) by omega)]; rfl
    · have h4 : sg0.len N = (toL N).length := rfl
      have hlt : N < 18446744073709551616 := by
        have h3 : (toL N).length ≤ 2 := by omega
        exact (lt_of_len_toL h3 : N < 4294967296 ^ 2)
      have hp : pre_sm 0 (toL N) (sg0.len N : Int) 0 b s := ⟨okL_toL N, by omega, rfl, rfl, rfl⟩
      obtain ⟨_, hpost⟩ := phi_sm_spec _ _ _ _ _ _ hp
      unfold post_sm at hpost
      rw [vL_toL] at hpost
      rw [dF h2, cond_sm_eq _ _ _ _ _ _ hp, hpost] at hcall
      rw [hcall]
      cases b
      · rw [t2]
        by_cases h5 : N < 9223372036854775808
        · rw [if_pos (by omega), dT (show (N : Int) < 9223372036854775808 by omega), dT (show -9223372036854775808 ≤ (N : Int) ∧ (N : Int) < 9223372036854775808 by omega), show IntKind.i64.wrap (N : Int) = N by rw [IntKind.wrap_i64]; omega]
          rfl
        · rw [if_neg (by omega), dF (show ¬ (N : Int) < 9223372036854775808 by omega), dF (show ¬ (-9223372036854775808 ≤ (N : Int) ∧ (N : Int) < 9223372036854775808) by omega)]
          rfl
      · rw [t1]
        by_cases h5 : N ≤ 9223372036854775808
        · rw [if_pos (by omega), dT (show (N : Int) ≤ 9223372036854775808 by omega), dT (show -9223372036854775808 ≤ -(N : Int) ∧ -(N : Int) < 9223372036854775808 by omega), show IntKind.i64.wrap (IntKind.u64.wrap (0 - (N : Int))) = -(N : Int) by rw [IntKind.wrap_i64, IntKind.wrap_u64]; omega]
          rfl
        · rw [if_neg (by omega), dF (show ¬ (N : Int) ≤ 9223372036854775808 by omega), dF (show ¬ (-9223372036854775808 ≤ -(N : Int) ∧ -(N : Int) < 9223372036854775808) by omega)]
          rfl
  · cases h
end
end Go.Proofs.Ytlpfnbopmigefaa.L
