/- Small, told. -/
import Derived.Test.YtlpfnbopmigefaaZMD
set_option linter.unusedVariables false
set_option linter.unusedSimpArgs false

/- Small, told. -/
set_option linter.unusedVariables false
set_option linter.unusedSimpArgs false
namespace Go.Proofs.Ytlpfnbopmigefaa.L
open Go Go.V Go.RowKit Go.Proofs.Ytlpfnbopmigefaa.Sp Go.Proofs.Ytlpfnbopmigefaa.F Go.Proofs.YtlpfnbopmigefaaW.PrintWords
open Go.Proofs (Try.prog)
noncomputable section
end
end Go.Proofs.Ytlpfnbopmigefaa.L

/- Small as an entry. -/
set_option linter.unusedVariables false
namespace Go.Proofs.Ytlpfnbopmigefaa.L
open Go Go.V Go.RowKit Go.Proofs.Ytlpfnbopmigefaa.Sp
open Go.Proofs (Try.prog)
noncomputable section
end
end Go.Proofs.Ytlpfnbopmigefaa.L

/- Root, told. -/
set_option linter.unusedVariables false
set_option linter.unusedSimpArgs false
namespace Go.Proofs.Ytlpfnbopmigefaa.L
open Go Go.V Go.RowKit Go.Proofs.Ytlpfnbopmigefaa.Sp Go.Proofs.Ytlpfnbopmigefaa.F Go.Proofs.YtlpfnbopmigefaaW.PrintWords
open Go.Proofs (Try.prog)
noncomputable section
def CRo (S : Sg) : FuncId → List AV → Option (Bool × AV) := addC 47 (tLoad S) (addC 59 (tDivide S) (addC 49 (tPlus S) (addC 63 (tUnshift S) (addC 50 (tCompareL S) (addC 57 (tTimes S) (addC 62 (tSize S) (addC 48 (tPack S) noC)))))))
theorem CRo_ok : Meets Try.prog (CRo sg0) := ((((((((meets_none _).add ePack).add eSize).add eTimes).add eCompareL).add eUnshift).add ePlus).add eDivide).add eLoad
abbrev p_rtB : List Bool := [false, false, true, true, true, true, true, true]
def sh_rtB (xs : List Int) (ys : List Int) (rb : Bool) (rs : ByteArray) : List AV := slots 56 [(2, .ptr 0 0), (5, .lst false 64 xs.length (lim xs)), (7, .lst false 64 ys.length (lim ys))]
def hp_rtB (xs : List Int) (ys : List Int) (rb : Bool) (rs : ByteArray) : Hp := [.row (.cells [.val (.bool rb), .val (.string rs)]) 23 .live]
theorem code_rtB : subC Try.prog 24 (false :: p_rtB) = some (lb 24 p_rtB) := by kernel_rfl
theorem round_rtB (S : Sg) (xs : List Int) (ys : List Int) (rb : Bool) (rs : ByteArray) : letI q_3 := (S.num xs.length (lim xs) / S.num ys.length (lim ys)); letI q_1 := (S.num ys.length (lim ys) + S.num (S.len q_3) (S.row q_3)); letI q_2 := (S.num (S.len q_1) (S.row q_1) / (2 : Nat)); 
    (roundA Try.prog ⟨CRo S, Kall, noL⟩ 24 [2, 5, 7] (lb 24 p_rtB) (false :: p_rtB) (sh_rtB xs ys rb rs) (hp_rtB xs ys rb rs) = (bif S.can xs.length (lim xs) && S.can ys.length (lim ys) && S.oks xs.length (lim xs) && S.oks ys.length (lim ys) && decide ((0 : Nat) < S.num ys.length (lim ys)) then (bif S.oks ys.length (lim ys) && S.oks (S.len q_3) (S.row q_3) then (bif S.okr (S.len q_1) (S.row q_1) && true && true then (bif S.can (S.len q_2) (S.row q_2) && S.can ys.length (lim ys) then (bif decide ((0 : Int) ≤ S.cmp (S.num (S.len q_2) (S.row q_2)) (S.num ys.length (lim ys))) then some ((.exit 0), slots 56 [(2, (.ptr 0 0)), (5, (.lst false 64 xs.length (lim xs))), (7, (.lst false 64 ys.length (lim ys)))], [(.row (.cells [(.val (.bool rb)), (.val (.string rs))]) 23 .live)]) else some (.normal, slots 56 [(2, (.ptr 0 0)), (5, (.lst false 64 xs.length (lim xs))), (7, (.lst false 64 (S.len q_2) (S.row q_2)))], [(.row (.cells [(.val (.bool rb)), (.val (.string rs))]) 23 .live)])) else none) else none) else none) else none)) := by kernel_rfl
theorem step_rtB {xs : List Int} {ys : List Int} {rb : Bool} {rs : ByteArray} {e : Ex} {T : List AV} {H : Hp} (h : roundA Try.prog ⟨CRo sg0, Kall, noL⟩ 24 [2, 5, 7] (lb 24 p_rtB) (false :: p_rtB) (sh_rtB xs ys rb rs) (hp_rtB xs ys rb rs) = some (e, T, H)) : V.Ends Try.prog false 0 0 (lb 24 p_rtB) (sh_rtB xs ys rb rs) (hp_rtB xs ys rb rs) e T H :=
  round_ends CRo_ok loops_none mixed code_rtB h
abbrev p_rtA : List Bool := [false, false, true, true, true, true, true, true]
def sh_rtA (xs : List Int) (ys : List Int) (rb : Bool) (rs : ByteArray) : List AV := slots 56 [(2, .ptr 0 0), (5, .lst false 64 xs.length (lim xs)), (7, .sl false 64 1 0 ys.length)]
def hp_rtA (xs : List Int) (ys : List Int) (rb : Bool) (rs : ByteArray) : Hp := [.row (.cells [.val (.bool rb), .val (.string rs)]) 23 .live, .row (.ints .u32 ys) 64 .live]
theorem body_rtA : subC Try.prog 24 p_rtA = some (.loop (lb 24 p_rtA)) := by kernel_rfl
theorem code_rtA : subC Try.prog 24 (false :: p_rtA) = some (lb 24 p_rtA) := by kernel_rfl
theorem round_rtA (S : Sg) (xs : List Int) (ys : List Int) (rb : Bool) (rs : ByteArray) : letI q_3 := (S.num xs.length (lim xs) / S.num ys.length (lim ys)); letI q_1 := (S.num ys.length (lim ys) + S.num (S.len q_3) (S.row q_3)); letI q_2 := (S.num (S.len q_1) (S.row q_1) / (2 : Nat)); 
    (roundA Try.prog ⟨CRo S, Kall, noL⟩ 24 [2, 5, 7] (lb 24 p_rtA) (false :: p_rtA) (sh_rtA xs ys rb rs) (hp_rtA xs ys rb rs) = (bif decide ((0 : Nat) + ys.length * (1 : Nat) ≤ ys.length) then (bif S.can xs.length (lim xs) && S.can ys.length (lim ys) && S.oks xs.length (lim xs) && S.oks ys.length (lim ys) && decide ((0 : Nat) < S.num ys.length (lim ys)) then (bif decide ((0 : Nat) + ys.length * (1 : Nat) ≤ ys.length) then (bif S.oks ys.length (lim ys) && S.oks (S.len q_3) (S.row q_3) then (bif S.okr (S.len q_1) (S.row q_1) && true && true then (bif decide ((0 : Nat) + ys.length * (1 : Nat) ≤ ys.length) then (bif S.can (S.len q_2) (S.row q_2) && S.can ys.length (lim ys) then (bif decide ((0 : Int) ≤ S.cmp (S.num (S.len q_2) (S.row q_2)) (S.num ys.length (lim ys))) then some ((.exit 0), slots 56 [(2, (.ptr 0 0)), (5, (.lst false 64 xs.length (lim xs))), (7, (.sl false 64 1 0 ys.length))], [(.row (.cells [(.val (.bool rb)), (.val (.string rs))]) 23 .live), (.row (.ints .u32 ys) 64 .froz)]) else some (.normal, slots 56 [(2, (.ptr 0 0)), (5, (.lst false 64 xs.length (lim xs))), (7, (.lst false 64 (S.len q_2) (S.row q_2)))], [(.row (.cells [(.val (.bool rb)), (.val (.string rs))]) 23 .live)])) else none) else none) else none) else none) else none) else none) else none)) := by kernel_rfl
theorem step_rtA {xs : List Int} {ys : List Int} {rb : Bool} {rs : ByteArray} {e : Ex} {T : List AV} {H : Hp} (h : roundA Try.prog ⟨CRo sg0, Kall, noL⟩ 24 [2, 5, 7] (lb 24 p_rtA) (false :: p_rtA) (sh_rtA xs ys rb rs) (hp_rtA xs ys rb rs) = some (e, T, H)) : V.Ends Try.prog false 0 0 (lb 24 p_rtA) (sh_rtA xs ys rb rs) (hp_rtA xs ys rb rs) e T H :=
  round_ends CRo_ok loops_none mixed code_rtA h
theorem cmp_le (y x : Nat) : 0 ≤ sg0.cmp y x ↔ x ≤ y := by
  show 0 ≤ cmpN y x ↔ _
  unfold cmpN
  split <;> (try split) <;> omega
theorem oksR {n : Nat} (h : (toL n).length ≤ 8796093022208) : sg0.oks (sg0.len n) (sg0.row n) = true := oks_len h
theorem okrR {n : Nat} (h : (toL n).length ≤ 17592186044416) : sg0.okr (sg0.len n) (sg0.row n) = true := okr_len h
theorem canR {n : Nat} (h : (toL n).length ≤ 17592186044416) : sg0.can (sg0.len n) (sg0.row n) = true := can_len h
theorem rt_sizes {a x : Nat} (ha : (toL a).length ≤ 1099511627776) (hlx : (toL x).length ≤ 1099511627776) : (toL (a / x)).length ≤ 1099511627776 ∧ (toL (x + a / x)).length ≤ 2199023255554 ∧ (toL ((x + a / x) / 2)).length ≤ 2199023255554 := by
  have hql : (toL (a / x)).length ≤ (toL a).length := len_le_of_le (Nat.div_le_self a x)
  have hsum : (toL (x + a / x)).length ≤ 2199023255554 := Nat.le_trans (len_add hlx (show (toL (a / x)).length ≤ 1099511627776 by omega)) (by omega)
  exact ⟨by omega, hsum, Nat.le_trans (len_le_of_le (Nat.div_le_self _ 2)) hsum⟩
theorem rtB_go (rb : Bool) (rs : ByteArray) (a : Nat) (ha0 : 0 < a) (ha : (toL a).length ≤ 1099511627776) (n : Nat) : ∀ x : Nat, x = n → 0 < x → (toL x).length ≤ 1099511627776 → a < (x + 1) * (x + 1) →
    LoopTo Try.prog (lb 24 p_rtB) (sh_rtB (toL a) (toL x) rb rs) (hp_rtB (toL a) (toL x) rb rs) (.exit 0) (sh_rtB (toL a) (toL (rootN a)) rb rs) (hp_rtB (toL a) (toL (rootN a)) rb rs) := by
  induction n using Nat.strongRecOn with
  | _ n ih =>
    intro x hn hx hlx hax
    obtain ⟨s1, s2, s3⟩ := rt_sizes ha hlx
    have hr := round_rtB sg0 (toL a) (toL x) rb rs
    simp only [num_len, num_row] at hr
    rw [can_len (n := a) (by omega), can_len (n := x) (by omega), oks_len (n := a) (by omega), oks_len (n := x) (by omega), dT (show 0 < x from hx), oksR (n := a / x) (by omega), okrR (n := x + a / x) (by omega), canR (n := (x + a / x) / 2) (by omega)] at hr
    by_cases hstop : x ≤ (x + a / x) / 2
    · have hxa := newton_stop hx hstop
      have hr2 := rootN_is a
      have hxr : x = rootN a := root_uniq hxa hax hr2.1 hr2.2
      rw [← hxr]
      refine .last (step_rtB ?_) (by intro h; cases h)
      rw [hr, dT ((cmp_le _ _).2 hstop)]
      rfl
    · have hy0 : 0 < (x + a / x) / 2 := by
        rcases Nat.eq_zero_or_pos ((x + a / x) / 2) with h | h
        · have := newton_ge (a := a) hx
          rw [h] at this
          omega
        · exact h
      have hrec := ih ((x + a / x) / 2) (by omega) _ rfl hy0 (Nat.le_trans (len_le_of_le (show (x + a / x) / 2 ≤ x by omega)) hlx) (newton_ge hx)
      refine .more (step_rtB ?_) hrec
      rw [hr, dF (fun h => hstop ((cmp_le _ _).1 h))]
      rfl
def pre_rtA (xs ys : List Int) (rb : Bool) (rs : ByteArray) : Prop := ∃ a x : Nat, xs = toL a ∧ ys = toL x ∧ 0 < a ∧ (toL a).length ≤ 1099511627776 ∧ (toL x).length ≤ 1099511627776 ∧ a < x * x
def post_rtA (xs ys : List Int) (rb : Bool) (rs : ByteArray) (r : List Int) : Prop := r = toL (rootN (vL xs))
theorem loop_rtA (xs ys : List Int) (rb : Bool) (rs : ByteArray) (h : pre_rtA xs ys rb rs) : ∃ r : List Int, LoopTo Try.prog (lb 24 p_rtA) (sh_rtA xs ys rb rs) (hp_rtA xs ys rb rs) (.exit 0) (sh_rtB xs r rb rs) (hp_rtB xs r rb rs) ∧ post_rtA xs ys rb rs r := by
  obtain ⟨a, x, rfl, rfl, ha0, ha, hlx, hax⟩ := h
  unfold post_rtA
  rw [vL_toL]
  have hx : 0 < x := by
    rcases Nat.eq_zero_or_pos x with h | h
    · subst h; omega
    · exact h
  have hq : a / x < x := Nat.div_lt_of_lt_mul hax
  obtain ⟨s1, s2, s3⟩ := rt_sizes ha hlx
  have hy0 : 0 < (x + a / x) / 2 := by
    rcases Nat.eq_zero_or_pos ((x + a / x) / 2) with h | h
    · have := newton_ge (a := a) hx
      rw [h] at this
      omega
    · exact h
  have hrec := rtB_go rb rs a ha0 ha _ ((x + a / x) / 2) rfl hy0 (Nat.le_trans (len_le_of_le (show (x + a / x) / 2 ≤ x by omega)) hlx) (newton_ge hx)
  refine ⟨toL (rootN a), .more (step_rtA ?_) hrec, rfl⟩
  have hr := round_rtA sg0 (toL a) (toL x) rb rs
  simp only [num_len, num_row] at hr
  rw [dT (show 0 + (toL x).length * 1 ≤ (toL x).length by omega), can_len (n := a) (by omega), can_len (n := x) (by omega), oks_len (n := a) (by omega), oks_len (n := x) (by omega), dT (show 0 < x from hx), oksR (n := a / x) (by omega), okrR (n := x + a / x) (by omega), canR (n := (x + a / x) / 2) (by omega), dF (fun h => absurd ((cmp_le _ _).1 h) (by omega))] at hr
  rw [hr]
  rfl
def told_rtA (κ : List Int → List Int → Bool → ByteArray → Bool) (φ : List Int → List Int → Bool → ByteArray → List Int) (T : List AV) (H : Hp) : Option (Bool × Ex × List AV × Hp) :=
  match lget T 2, lget T 5, lget T 7, H with
  | .ptr 0 0, .lst false 64 m_xs f_xs, .sl false 64 1 0 m_ys, [.row (.cells [.val (.bool rb), .val (.string rs)]) 23 .live, .row (.ints .u32 ys) 64 .live] => bif T.length == 56 then some (okB m_xs f_xs && decide (m_ys = ys.length) && κ (rowOf m_xs f_xs) ys rb rs, .exit 0, sh_rtB (rowOf m_xs f_xs) ((φ (rowOf m_xs f_xs) ys rb rs)) rb rs, hp_rtB (rowOf m_xs f_xs) ((φ (rowOf m_xs f_xs) ys rb rs)) rb rs) else none
  | _, _, _, _ => none
abbrev KT_rtA : Type := List Int → List Int → Bool → ByteArray → Bool
abbrev FT_rtA : Type := List Int → List Int → Bool → ByteArray → List Int
def LL_rtA (κ : KT_rtA) (φ : FT_rtA) (L : LTab) : LTab := addLn 0 24 p_rtA [2, 5, 7] (told_rtA κ φ) L
def phi_rtA (xs : List Int) (ys : List Int) (rb : Bool) (rs : ByteArray) : List Int := Classical.epsilon fun ρ => LoopTo Try.prog (lb 24 p_rtA) (sh_rtA xs ys rb rs) (hp_rtA xs ys rb rs) (.exit 0) (sh_rtB xs (ρ) rb rs) (hp_rtB xs (ρ) rb rs) ∧ post_rtA xs ys rb rs ρ
theorem phi_rtA_spec (xs : List Int) (ys : List Int) (rb : Bool) (rs : ByteArray) (h : pre_rtA xs ys rb rs) : LoopTo Try.prog (lb 24 p_rtA) (sh_rtA xs ys rb rs) (hp_rtA xs ys rb rs) (.exit 0) (sh_rtB xs ((phi_rtA xs ys rb rs)) rb rs) (hp_rtB xs ((phi_rtA xs ys rb rs)) rb rs) ∧ post_rtA xs ys rb rs (phi_rtA xs ys rb rs) := Classical.epsilon_spec (loop_rtA xs ys rb rs h)
def cond_rtA (xs : List Int) (ys : List Int) (rb : Bool) (rs : ByteArray) : Bool := @decide (pre_rtA xs ys rb rs) (Classical.propDecidable _)
theorem cond_rtA_eq (xs : List Int) (ys : List Int) (rb : Bool) (rs : ByteArray) (h : pre_rtA xs ys rb rs) : cond_rtA xs ys rb rs = true := @decide_eq_true _ (Classical.propDecidable _) h
theorem told_rtA_ok (T : List AV) (H : Hp) (e : Ex) (T1 : List AV) (H1 : Hp) (h : told_rtA cond_rtA phi_rtA T H = some (true, e, T1, H1)) : V.Ends Try.prog false 0 0 (.loop (lb 24 p_rtA)) T H e T1 H1 := by
  unfold told_rtA at h
  split at h
  · rename_i m_xs f_xs m_ys rb rs ys h2 h5 h7
    rw [Bool.cond_eq_ite] at h
    split at h
    · rename_i hlen
      rw [beq_iff_eq] at hlen
      simp only [Option.some.injEq, Prod.mk.injEq, Bool.and_eq_true, decide_eq_true_eq] at h
      obtain ⟨⟨⟨k1, k2⟩, k3⟩, rfl, rfl, rfl⟩ := h
      have kc := @of_decide_eq_true _ (Classical.propDecidable _) k3
      refine Ends.pre (phi_rtA_spec (rowOf m_xs f_xs) ys rb rs kc).1.ends (fun α B w D ys hr => slots_rel hlen (fun p hp y hy => ?_) hr)
      simp only [List.mem_cons, List.not_mem_nil, or_false] at hp
      rcases hp with rfl | rfl | rfl
      · rw [h2] at hy; exact hy
      · rw [h5] at hy; rw [rowOf_len]; exact row_norm cells64 k1 hy
      · rw [h7] at hy; rw [← k2]; exact hy
    · cases h
  · cases h
theorem LL_rtA_ok {L : LTab} (h : LOk Try.prog L) : LOk Try.prog (LL_rtA cond_rtA phi_rtA L) := h.add2n body_rtA told_rtA_ok
theorem root_call (S : Sg) (κ : KT_rtA) (φ : FT_rtA) (b : Bool) (s : ByteArray) : letI q_4 := (rowOf (S.len (S.vs s)) (S.row (S.vs s))); letI q_2 := (((↑(S.bl (S.num (S.len (S.vs s)) (S.row (S.vs s)))) : Int) + (1 : Int)).tdiv (2 : Int)); letI q_3 := (List.take ((q_2.tdiv (32 : Int)).toNat * (1 : Nat)) (List.replicate (q_2.tdiv (32 : Int)).toNat (0 : Int)) ++ [IntKind.u32.wrap ((1 : Int) * (2 : Int) ^ min (q_2.tmod (32 : Int)).toNat (32 : Nat))]); letI q_1 := (φ q_4 q_3 false (ByteArray.mk #[])); letI q_5 := (S.num q_1.length (lim q_1) * S.num q_1.length (lim q_1)); 
    (callA Try.prog ⟨CRo S, Kall, LL_rtA κ φ noL⟩ 10 10 24 [.agg [.val (.bool b), .val (.string s)]] = (bif S.ok s then (bif decide ((↑(S.len (S.vs s)) : Int) = (0 : Int)) then some (.tup [(.agg [(.val (.bool false)), (.val (.string (ByteArray.mk #[])))]), (.val (.bool true)), (.val (.int .i64 0))]) else (bif b then some (.tup [(.agg [(.val (.bool false)), (.val (.string (ByteArray.mk #[])))]), (.val (.bool false)), (.val (.int .i64 2))]) else (bif S.can (S.len (S.vs s)) (S.row (S.vs s)) then (bif inR IntKind.i64 ((↑(S.bl (S.num (S.len (S.vs s)) (S.row (S.vs s)))) : Int) + (1 : Int)) then (bif inR IntKind.i64 q_2 then (bif inR IntKind.i64 (q_2.tdiv (32 : Int)) then (bif decide (q_2.tdiv (32 : Int) ≤ q_2.tdiv (32 : Int)) && decide ((4 : Int) * q_2.tdiv (32 : Int) ≤ (281474976710656 : Int)) && decide (q_2.tdiv (32 : Int) ≤ (9223372036854775807 : Int)) then (bif decide ((q_2.tdiv (32 : Int)).toNat * (1 : Nat) ≤ (List.replicate (q_2.tdiv (32 : Int)).toNat (0 : Int)).length) && roomA Try.prog ((q_2.tdiv (32 : Int)).toNat + (1 : Nat)) (64 : Nat) && true then (bif okB (S.len (S.vs s)) (S.row (S.vs s)) && decide ((q_2.tdiv (32 : Int)).toNat + (1 : Nat) = q_3.length) && κ q_4 q_3 false (ByteArray.mk #[]) then (bif S.okr q_1.length (lim q_1) then (bif S.oks q_1.length (lim q_1) && S.oks q_1.length (lim q_1) then (bif S.can (S.len q_5) (S.row q_5) && S.can q_4.length (lim q_4) then some (.tup [(.agg [(.val (.bool (S.ng (S.sg false (S.num q_1.length (lim q_1)))))), (.val (.string (S.ms (S.sg false (S.num q_1.length (lim q_1))))))]), (.val (.bool (decide (S.cmp (S.num (S.len q_5) (S.row q_5)) (S.num q_4.length (lim q_4)) = (0 : Int))))), (.val (.int .i64 0))]) else none) else none) else none) else none) else none) else none) else none) else none) else none) else none))) else none)) := by kernel_rfl
end
end Go.Proofs.Ytlpfnbopmigefaa.L

/- Root as an entry. -/
set_option linter.unusedVariables false
set_option linter.unusedSimpArgs false
namespace Go.Proofs.Ytlpfnbopmigefaa.L
open Go Go.V Go.RowKit Go.Proofs.Ytlpfnbopmigefaa.Sp Go.Proofs.Ytlpfnbopmigefaa.F Go.Proofs.YtlpfnbopmigefaaW.PrintWords
open Go.Proofs (Try.prog)
noncomputable section
theorem x_rt {z : Int} (h : ¬ z < 0) : xg0.rt z = (rootN z.natAbs : Int) := if_neg h
theorem x_rx {z : Int} (h : ¬ z < 0) : xg0.rx z = decide (rootN z.natAbs * rootN z.natAbs = z.natAbs) := if_neg h
theorem x_re {z : Int} (h : ¬ z < 0) : xg0.re z = 0 := if_neg h
theorem x_rt2 {z : Int} (h : z < 0) : xg0.rt z = 0 := if_pos h
theorem x_rx2 {z : Int} (h : z < 0) : xg0.rx z = false := if_pos h
theorem x_re2 {z : Int} (h : z < 0) : xg0.re z = 2 := if_pos h
theorem p256 (m : Nat) : 256 ^ m = 2 ^ (8 * m) := by rw [Nat.pow_mul]
theorem root_le (a : Nat) : rootN a ≤ a := by
  have h := (rootN_is a).1
  rcases Nat.eq_zero_or_pos (rootN a) with h0 | h0
  · omega
  · exact Nat.le_trans (Nat.le_mul_of_pos_left _ h0) h
theorem cmp_eq0 (y x : Nat) : sg0.cmp y x = 0 ↔ y = x := by
  show cmpN y x = 0 ↔ _
  unfold cmpN
  split <;> (try split) <;> omega
theorem root_go (s : ByteArray) (h1 : s.size ≤ 68719476736) (h0 : sg0.vs s ≠ 0) : callA Try.prog ⟨CRo sg0, Kall, LL_rtA cond_rtA phi_rtA noL⟩ 10 10 24 [.agg [.val (.bool false), .val (.string s)]] = some (.tup [sg0.int (rootN (sg0.vs s) : Nat), .val (.bool (decide (rootN (sg0.vs s) * rootN (sg0.vs s) = sg0.vs s))), .val (.int .i64 0)]) := by
  have hcall := root_call sg0 cond_rtA phi_rtA false s
  have hb := bs_vs s
  have hl := len_bs (sg0.vs s)
  have hlen : sg0.vs s < 2 ^ (8 * s.size) := by rw [← p256]; exact vS_lt s
  have hbl := bl_le _ _ hlen
  have hbl1 : sg0.vs s < 2 ^ sg0.bl (sg0.vs s) := (blen_is (sg0.vs s)).1
  have er : rowOf (sg0.len (sg0.vs s)) (sg0.row (sg0.vs s)) = toL (sg0.vs s) := rowOf_enc _
  have eo : okB (sg0.len (sg0.vs s)) (sg0.row (sg0.vs s)) = true := okB_enc _
  have hl0 : ((sg0.len (sg0.vs s) : Nat) : Int) = 0 ↔ sg0.vs s = 0 := len0 _
  have hl' : (toL (sg0.vs s)).length ≤ 1099511627776 := Nat.le_trans hl (by omega)
  rw [show sg0.ok s = true from decide_eq_true (by omega), dF (fun e => h0 (hl0.1 e))] at hcall
  simp only [num_row] at hcall
  have hcan : sg0.can (sg0.len (sg0.vs s)) (sg0.row (sg0.vs s)) = true := canR (by omega)
  rw [hcan, er, eo] at hcall
  clear er eo hl0 hb hl hlen hcan
  generalize sg0.vs s = a at *
  generalize sg0.bl a = l at *
  have e1 : ((l : Int) + 1).tdiv 2 = (((l + 1) / 2 : Nat) : Int) := rfl
  rw [e1] at hcall
  have hK : l ≤ 2 * ((l + 1) / 2) := by omega
  have hK2 : (l + 1) / 2 ≤ 274877906945 := by omega
  generalize (l + 1) / 2 = K at *
  have e2 : (K : Int).tdiv 32 = ((K / 32 : Nat) : Int) := rfl
  have e3 : (K : Int).tmod 32 = ((K % 32 : Nat) : Int) := rfl
  rw [e2, e3, Int.toNat_natCast, Int.toNat_natCast] at hcall
  have hL : List.take (K / 32 * 1) (List.replicate (K / 32) (0 : Int)) ++ [IntKind.u32.wrap (1 * 2 ^ min (K % 32) 32)] = toL (2 ^ K) := by
    rw [Nat.mul_one, List.take_of_length_le (by rw [List.length_replicate]; exact Nat.le_refl _)]
    exact start_list K (by omega)
  have hLl : (toL (2 ^ K)).length = K / 32 + 1 := by
    rw [← hL, Nat.mul_one, List.take_of_length_le (by rw [List.length_replicate]; exact Nat.le_refl _), List.length_append, List.length_replicate]
    rfl
  rw [hL, hLl] at hcall
  have hpw : a < 2 ^ K * 2 ^ K := by
    rw [← Nat.pow_add]
    exact Nat.lt_of_lt_of_le hbl1 (Nat.pow_le_pow_right (by decide) (by omega))
  have hp : pre_rtA (toL a) (toL (2 ^ K)) false (ByteArray.mk #[]) := ⟨a, 2 ^ K, rfl, rfl, by omega, hl', by rw [hLl]; omega, hpw⟩
  obtain ⟨_, hpost⟩ := phi_rtA_spec _ _ _ _ hp
  unfold post_rtA at hpost
  rw [vL_toL] at hpost
  have hr := rootN_is a
  have hrl := len_mono (root_le a)
  have hrr := len_mono hr.1
  rw [cond_rtA_eq _ _ _ _ hp, hpost, i64T (show -9223372036854775808 ≤ (l : Int) + 1 ∧ (l : Int) + 1 ≤ 9223372036854775807 by omega), i64T (show -9223372036854775808 ≤ (K : Int) ∧ (K : Int) ≤ 9223372036854775807 by omega), i64T (show -9223372036854775808 ≤ ((K / 32 : Nat) : Int) ∧ ((K / 32 : Nat) : Int) ≤ 9223372036854775807 by omega),
    dT (show ((K / 32 : Nat) : Int) ≤ ((K / 32 : Nat) : Int) by omega), dT (show (4 : Int) * ((K / 32 : Nat) : Int) ≤ 281474976710656 by omega), dT (show ((K / 32 : Nat) : Int) ≤ 9223372036854775807 by omega), dT (show K / 32 * 1 ≤ (List.replicate (K / 32) (0 : Int)).length by rw [List.length_replicate]; omega), room64 _ (by omega), dT (show K / 32 + 1 = K / 32 + 1 from rfl), okr_len (n := rootN a) (by omega), oks_len (n := rootN a) (by omega)] at hcall
  simp only [num_len, num_row] at hcall
  rw [canR (n := rootN a * rootN a) (by omega), can_len (n := a) (by omega)] at hcall
  rw [hcall]
  refine congrArg some ?_
  show AV.tup [sg0.int (rootN a : Nat), .val (.bool (decide (sg0.cmp (rootN a * rootN a) a = 0))), .val (.int .i64 0)] = _
  rw [decide_eq_decide.2 (cmp_eq0 (rootN a * rootN a) a)]
theorem eRoot : Entry Try.prog 24 (tRoot sg0 xg0) := by
  refine entry_of (E := ⟨CRo sg0, Kall, LL_rtA cond_rtA phi_rtA noL⟩) (u := 10) (d := 10) CRo_ok (LL_rtA_ok LOk.none).ok mixed (by kernel_rfl) (fun args r h => ?_)
  unfold tRoot at h
  split at h
  · rename_i b s
    simp only [Option.some.injEq, Prod.mk.injEq] at h
    obtain ⟨h1, rfl⟩ := h
    have h1 : s.size ≤ 68719476736 := of_decide_eq_true h1
    have hl0 : ((sg0.len (sg0.vs s) : Nat) : Int) = 0 ↔ sg0.vs s = 0 := len0 _
    have hok : sg0.ok s = true := decide_eq_true (by omega)
    have t1 : ∀ k : Nat, sg0.sg true k = -(k : Int) := fun k => rfl
    have t2 : ∀ k : Nat, sg0.sg false k = (k : Int) := fun k => rfl
    have hv : sg0.val b s = sg0.sg b (sg0.vs s) := rfl
    rw [hv]
    by_cases h0 : sg0.vs s = 0
    · have hcall := root_call sg0 cond_rtA phi_rtA b s
      rw [hok, dT (hl0.2 h0)] at hcall
      rw [hcall, h0]
      have z0 : sg0.sg b 0 = 0 := by cases b <;> rfl
      rw [z0, x_rt (by decide), x_rx (by decide), x_re (by decide)]
      unfold Sg.int
      rw [show ((rootN (0 : Int).natAbs : Nat) : Int) = 0 from rfl, ms_zero]
      rfl
    · cases b
      · rw [root_go s h1 h0, t2, x_rt (by omega), x_rx (by omega), x_re (by omega), Int.natAbs_natCast]
      · have hcall := root_call sg0 cond_rtA phi_rtA true s
        rw [hok, dF (fun e => h0 (hl0.1 e))] at hcall
        rw [hcall, t1, x_rt2 (by omega), x_rx2 (by omega), x_re2 (by omega)]
        unfold Sg.int
        rw [ms_zero]
        rfl
  · cases h
end
end Go.Proofs.Ytlpfnbopmigefaa.L
