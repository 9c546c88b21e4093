import Derived.Test.YtndpfegbbpoopaaZYA
import Derived.Test.YtndpfegbbpoopaaZL
set_option linter.unusedVariables false
set_option linter.unusedSimpArgs false
namespace Go.Proofs.Ytndpfegbbpoopaa.L
open Go Go.V Go.RowKit Go.Proofs.Ytndpfegbbpoopaa.Sp
open Go.Proofs (Try.prog)
noncomputable section
def okb (l : List Int) : Prop := ∀ z ∈ l, ∃ c : Nat, c < 256 ∧ z = (c : Int)
end
end Go.Proofs.Ytndpfegbbpoopaa.L
namespace Go.Proofs.Ytndpfegbbpoopaa.L
open Go Go.V Go.RowKit Go.Proofs.Ytndpfegbbpoopaa.Sp Go.Proofs.Ytndpfegbbpoopaa.F
open Go.Proofs (Try.prog)
noncomputable section
abbrev p_ma : List Bool := [false, true, false, true, true, true]
def sh_ma (y : Int) (zs : List Int) (c : Int) (xs : List Int) (n : Int) (i : Int) : List AV := slots 44 [(1, .val (.int .u32 y)), (7, .sl false 47 0 0 zs.length), (8, .val (.int .u64 c)), (17, .lst false 47 xs.length (lim xs)), (18, .val (.int .i64 n)), (19, .val (.int .i64 i))]
def hp_ma (y : Int) (zs : List Int) (c : Int) (xs : List Int) (n : Int) (i : Int) : Hp := [.row (.ints .u32 zs) 47 .live]
theorem body_ma : subC Try.prog 21 p_ma = some (.loop (lb 21 p_ma)) := by kernel_rfl
theorem code_ma : subC Try.prog 21 (false :: p_ma) = some (lb 21 p_ma) := by kernel_rfl
theorem round_ma  (y : Int) (zs : List Int) (c : Int) (xs : List Int) (n : Int) (i : Int) : roundA Try.prog EL0 21 [1, 7, 8, 17, 18, 19] (lb 21 p_ma) (false :: p_ma) (sh_ma y zs c xs n i) (hp_ma y zs c xs n i) =
    (bif decide (i < n) then (bif decide ((0 : Int) ≤ i) && decide (i < (↑xs.length : Int)) then (bif inR IntKind.u64 (xs.getD i.toNat (0 : Int)) then (bif inR IntKind.u64 y then (bif decide (zs.length * (1 : Nat) ≤ zs.length) && roomA Try.prog (zs.length + (1 : Nat)) (47 : Nat) && true then (bif inR IntKind.i64 (i + (1 : Int)) then some (.normal, slots 44 [(1, (.val (.int .u32 y))), (7, (.sl false 47 0 0 (zs.length + (1 : Nat)))), (8, (.val (.int .u64 ((IntKind.u64.wrap (c + IntKind.u64.wrap (xs.getD i.toNat (0 : Int) * y))).fdiv (4294967296 : Int))))), (17, (.lst false 47 xs.length (lim xs))), (18, (.val (.int .i64 n))), (19, (.val (.int .i64 (i + (1 : Int)))))], [(.row (.ints .u32 (List.take (zs.length * (1 : Nat)) zs ++ [IntKind.u32.wrap (IntKind.u64.wrap (c + IntKind.u64.wrap (xs.getD i.toNat (0 : Int) * y)))])) 47 .live)]) else none) else none) else none) else none) else none) else some ((.exit 0), slots 44 [(1, (.val (.int .u32 y))), (7, (.sl false 47 0 0 zs.length)), (8, (.val (.int .u64 c))), (17, (.lst false 47 xs.length (lim xs))), (18, (.val (.int .i64 n))), (19, (.val (.int .i64 i)))], [(.row (.ints .u32 zs) 47 .live)])) := by kernel_rfl
theorem step_ma {y : Int} {zs : List Int} {c : Int} {xs : List Int} {n : Int} {i : Int} {e : Ex} {T : List AV} {H : Hp} (h : roundA Try.prog EL0 21 [1, 7, 8, 17, 18, 19] (lb 21 p_ma) (false :: p_ma) (sh_ma y zs c xs n i) (hp_ma y zs c xs n i) = some (e, T, H)) : V.Ends Try.prog false 0 0 (lb 21 p_ma) (sh_ma y zs c xs n i) (hp_ma y zs c xs n i) e T H :=
  round_ends (meets_none _) loops_none mixed code_ma h
def pre_ma (y : Int) (zs : List Int) (c : Int) (xs : List Int) (n i : Int) : Prop := okL xs ∧ xs.length ≤ 8796093022208 ∧ n = xs.length ∧ i = 0 ∧ zs = [] ∧ 0 ≤ y ∧ y < 4294967296 ∧ 0 ≤ c ∧ c < 4294967296
def post_ma (y : Int) (zs : List Int) (c : Int) (xs : List Int) (n i : Int) (r : List Int × Int × Int) : Prop := okL r.1 ∧ r.1.length = xs.length ∧ ∃ k : Nat, k < 4294967296 ∧ r.2.1 = k ∧ vL r.1 + 4294967296 ^ xs.length * k = vL xs * y.toNat + c.toNat
theorem ma_go (xs : List Int) (y a : Nat) (hl : okL xs) (hb : xs.length ≤ 8796093022208) (hy : y < 4294967296) (d : Nat) : ∀ (i c : Nat) (out : List Int), i + d = xs.length → okL out → out.length = i → c < 4294967296 →
    vL out + 4294967296 ^ i * c = vL (xs.take i) * y + a →
    ∃ r : List Int × Int × Int, LoopTo Try.prog (lb 21 p_ma) (sh_ma y out c xs xs.length i) (hp_ma y out c xs xs.length i) (.exit 0) (sh_ma y r.1 r.2.1 xs xs.length r.2.2) (hp_ma y r.1 r.2.1 xs xs.length r.2.2) ∧
      okL r.1 ∧ r.1.length = xs.length ∧ ∃ k : Nat, k < 4294967296 ∧ r.2.1 = k ∧ vL r.1 + 4294967296 ^ xs.length * k = vL xs * y + a := by
  induction d with
  | zero =>
    intro i c out hi hok hlen hc hv
    have hi' : i = xs.length := by omega
    subst hi'
    refine ⟨(out, (c : Int), (xs.length : Int)), .last (step_ma ?_) (by intro h; cases h), hok, hlen, c, hc, rfl, ?_⟩
    · rw [round_ma, dF (show ¬ ((xs.length : Int) < xs.length) by omega)]
      rfl
    · rw [hv, List.take_length]
  | succ d ih =>
    intro i c out hi hok hlen hc hv
    have hil : i < xs.length := by omega
    obtain ⟨x, hx, hex, hrx⟩ := getD_limb hl i hil
    have ht := vL_take_succ xs i hil
    rw [hex, Int.toNat_natCast] at ht
    have hxy : x * y ≤ 4294967295 * 4294967295 := Nat.mul_le_mul (by omega) (by omega)
    have hr := round_ma y out c xs xs.length i
    have e1 : (x : Int) * (y : Int) = ((x * y : Nat) : Int) := (Int.natCast_mul _ _).symm
    rw [Int.toNat_natCast, hrx, e1, u64w', Nat.mod_eq_of_lt (show x * y < 18446744073709551616 by omega), ← Int.natCast_add, u64w', Nat.mod_eq_of_lt (show c + x * y < 18446744073709551616 by omega), u32w, fdiv32, dT (show (i : Int) < xs.length by omega), dT (show (0 : Int) ≤ (i : Int) by omega), u64T (show 0 ≤ (x : Int) ∧ (x : Int) ≤ 18446744073709551615 by omega), u64T (show 0 ≤ (y : Int) ∧ (y : Int) ≤ 18446744073709551615 by omega), i64T (show -9223372036854775808 ≤ (i : Int) + 1 ∧ (i : Int) + 1 ≤ 9223372036854775807 by omega), Nat.mul_one, dT (Nat.le_refl out.length), room64 _ (show out.length + 1 ≤ 35184372088832 by omega), List.take_length] at hr
    have hs : vL (out ++ [(((c + x * y) % 4294967296 : Nat) : Int)]) + 4294967296 ^ (i + 1) * ((c + x * y) / 4294967296) = vL (xs.take (i + 1)) * y + a := by
      rw [vL_snoc, hlen, Int.toNat_natCast, Nat.pow_succ, ht]
      have h1 := carry_step (n := c + x * y) hv
      have h2 : (vL (xs.take i) + 4294967296 ^ i * x) * y = vL (xs.take i) * y + 4294967296 ^ i * (x * y) := by rw [Nat.add_mul, Nat.mul_assoc]
      rw [h2]
      rw [Nat.mul_add (4294967296 ^ i) c] at h1
      omega
    obtain ⟨r, h1, h2⟩ := ih (i + 1) ((c + x * y) / 4294967296) (out ++ [(((c + x * y) % 4294967296 : Nat) : Int)]) (by omega) (okL_append.2 ⟨hok, by rw [okL_cons]; exact ⟨limbN _, okL_nil⟩⟩) (by simp [hlen]) (by rw [Nat.div_lt_iff_lt_mul (by decide)]; omega) hs
    refine ⟨r, .more (step_ma (hr.trans ?_)) h1, h2⟩
    unfold sh_ma hp_ma
    rw [List.length_append]
    rfl
theorem loop_ma (y : Int) (zs : List Int) (c : Int) (xs : List Int) (n i : Int) (h : pre_ma y zs c xs n i) : ∃ r : List Int × Int × Int, LoopTo Try.prog (lb 21 p_ma) (sh_ma y zs c xs n i) (hp_ma y zs c xs n i) (.exit 0) (sh_ma y r.1 r.2.1 xs n r.2.2) (hp_ma y r.1 r.2.1 xs n r.2.2) ∧ post_ma y zs c xs n i r := by
  obtain ⟨h1, h2, rfl, rfl, rfl, h3, h4, h5, h6⟩ := h
  obtain ⟨y, rfl⟩ := Int.eq_ofNat_of_zero_le h3
  obtain ⟨c, rfl⟩ := Int.eq_ofNat_of_zero_le h5
  exact ma_go xs y c h1 h2 (by omega) xs.length 0 c [] (by omega) okL_nil rfl (by omega) (by simp [vL_nil])
def told_ma (κ : Int → List Int → Int → List Int → Int → Int → Bool) (φ : Int → List Int → Int → List Int → Int → Int → List Int × Int × Int) (T : List AV) (H : Hp) : Option (Bool × Ex × List AV × Hp) :=
  match lget T 1, lget T 7, lget T 8, lget T 17, lget T 18, lget T 19, H with
  | .val (.int .u32 y), .sl false 47 0 0 m_zs, .val (.int .u64 c), .lst false 47 m_xs f_xs, .val (.int .i64 n), .val (.int .i64 i), [.row (.ints .u32 zs) 47 .live] => bif T.length == 44 then some (okB m_xs f_xs && decide (m_zs = zs.length) && κ y zs c (rowOf m_xs f_xs) n i, .exit 0, sh_ma y ((φ y zs c (rowOf m_xs f_xs) n i).1) ((φ y zs c (rowOf m_xs f_xs) n i).2.1) (rowOf m_xs f_xs) n ((φ y zs c (rowOf m_xs f_xs) n i).2.2), hp_ma y ((φ y zs c (rowOf m_xs f_xs) n i).1) ((φ y zs c (rowOf m_xs f_xs) n i).2.1) (rowOf m_xs f_xs) n ((φ y zs c (rowOf m_xs f_xs) n i).2.2)) else none
  | _, _, _, _, _, _, _ => none
abbrev KT_ma : Type := Int → List Int → Int → List Int → Int → Int → Bool
abbrev FT_ma : Type := Int → List Int → Int → List Int → Int → Int → List Int × Int × Int
def LL_ma (κ : KT_ma) (φ : FT_ma) (L : LTab) : LTab := addLn 0 21 p_ma [1, 7, 8, 17, 18, 19] (told_ma κ φ) L
def phi_ma (y : Int) (zs : List Int) (c : Int) (xs : List Int) (n : Int) (i : Int) : List Int × Int × Int := Classical.epsilon fun ρ => LoopTo Try.prog (lb 21 p_ma) (sh_ma y zs c xs n i) (hp_ma y zs c xs n i) (.exit 0) (sh_ma y (ρ.1) (ρ.2.1) xs n (ρ.2.2)) (hp_ma y (ρ.1) (ρ.2.1) xs n (ρ.2.2)) ∧ post_ma y zs c xs n i ρ
theorem phi_ma_spec (y : Int) (zs : List Int) (c : Int) (xs : List Int) (n : Int) (i : Int) (h : pre_ma y zs c xs n i) : LoopTo Try.prog (lb 21 p_ma) (sh_ma y zs c xs n i) (hp_ma y zs c xs n i) (.exit 0) (sh_ma y ((phi_ma y zs c xs n i).1) ((phi_ma y zs c xs n i).2.1) xs n ((phi_ma y zs c xs n i).2.2)) (hp_ma y ((phi_ma y zs c xs n i).1) ((phi_ma y zs c xs n i).2.1) xs n ((phi_ma y zs c xs n i).2.2)) ∧ post_ma y zs c xs n i (phi_ma y zs c xs n i) := Classical.epsilon_spec (loop_ma y zs c xs n i h)
def cond_ma (y : Int) (zs : List Int) (c : Int) (xs : List Int) (n : Int) (i : Int) : Bool := @decide (pre_ma y zs c xs n i) (Classical.propDecidable _)
theorem cond_ma_eq (y : Int) (zs : List Int) (c : Int) (xs : List Int) (n : Int) (i : Int) (h : pre_ma y zs c xs n i) : cond_ma y zs c xs n i = true := @decide_eq_true _ (Classical.propDecidable _) h
theorem told_ma_ok (T : List AV) (H : Hp) (e : Ex) (T1 : List AV) (H1 : Hp) (h : told_ma cond_ma phi_ma T H = some (true, e, T1, H1)) : V.Ends Try.prog false 0 0 (.loop (lb 21 p_ma)) T H e T1 H1 := by
  unfold told_ma at h
  split at h
  · rename_i y m_zs c m_xs f_xs n i zs h1 h7 h8 h17 h18 h19
    rw [Bool.cond_eq_ite] at h
    split at h
    · rename_i hlen
      rw [beq_iff_eq] at hlen
      simp only [Option.some.injEq, Prod.mk.injEq, Bool.and_eq_true, decide_eq_true_eq] at h
      obtain ⟨⟨⟨k1, k2⟩, k3⟩, rfl, rfl, rfl⟩ := h
      have kc := @of_decide_eq_true _ (Classical.propDecidable _) k3
      refine Ends.pre (phi_ma_spec y zs c (rowOf m_xs f_xs) n i kc).1.ends (fun α B w D ys hr => slots_rel hlen (fun p hp y hy => ?_) hr)
      simp only [List.mem_cons, List.not_mem_nil, or_false] at hp
      rcases hp with rfl | rfl | rfl | rfl | rfl | rfl
      · rw [h1] at hy; exact hy
      · rw [h7] at hy; rw [← k2]; exact hy
      · rw [h8] at hy; exact hy
      · rw [h17] at hy; rw [rowOf_len]; exact row_norm cells47 k1 hy
      · rw [h18] at hy; exact hy
      · rw [h19] at hy; exact hy
    · cases h
  · cases h
theorem LL_ma_ok {L : LTab} (h : LOk Try.prog L) : LOk Try.prog (LL_ma cond_ma phi_ma L) := h.add2n body_ma told_ma_ok
theorem ma_call (S : Sg) (κ : KT_ma) (φ : FT_ma) (xs : List Int) (y a : Int) : letI q_1 := (φ y [] a (rowOf xs.length (lim xs)) (↑xs.length : Int) (0 : Int)); letI q_2 := (List.take (q_1.fst.length * (1 : Nat)) q_1.fst ++ [IntKind.u32.wrap q_1.snd.fst]); letI q_3 := (q_1.fst.length + (1 : Nat));
    (callA Try.prog ⟨addC 39 (tTrim S) noC, Kall, LL_ma κ φ noL⟩ 10 10 21 [.lst false 47 xs.length (lim xs), .val (.int .u32 y), .val (.int .u32 a)] = (bif inR IntKind.i64 ((↑xs.length : Int) + (1 : Int)) then (bif decide ((4 : Int) * ((↑xs.length : Int) + (1 : Int)) ≤ (281474976710656 : Int)) && decide ((↑xs.length : Int) + (1 : Int) ≤ (9223372036854775807 : Int)) then (bif inR IntKind.u64 a then (bif okB xs.length (lim xs) && true && κ y [] a (rowOf xs.length (lim xs)) (↑xs.length : Int) (0 : Int) then (bif decide (q_1.fst.length * (1 : Nat) ≤ q_1.fst.length) && roomA Try.prog q_3 (47 : Nat) && true then (bif decide ((0 : Nat) + q_3 * (1 : Nat) ≤ q_2.length) then (bif S.okr q_3 (lim q_2) then some (.lst false 47 (S.len (S.num q_3 (lim q_2))) (S.row (S.num q_3 (lim q_2)))) else none) else none) else none) else none) else none) else none) else none)) := by kernel_rfl
def tMuladd (S : Sg) : List AV → Option (Bool × AV) := fun args => match args with | [.lst _ 47 m f, .val (.int .u32 y), .val (.int .u32 a)] => some (S.oks m f && inU y && inU a, S.lmb (S.num m f * y.toNat + a.toNat)) | _ => none
theorem eMuladd : Entry Try.prog 21 (tMuladd sg0) := by
  refine entry_to (E := ⟨addC 39 (tTrim sg0) noC, Kall, LL_ma cond_ma phi_ma noL⟩) (u := 10) (d := 10) ((meets_none _).add eTrim) (LL_ma_ok LOk.none).ok (by kernel_rfl) (fun args r h => ?_)
  unfold tMuladd at h
  split at h
  · rename_i m f y a
    simp only [Option.some.injEq, Prod.mk.injEq, Bool.and_eq_true] at h
    obtain ⟨⟨⟨h1, h2⟩, h3⟩, rfl⟩ := h
    obtain ⟨a1, a2, a3, a4⟩ := oks_out h1
    unfold inU at h2 h3
    rw [Bool.and_eq_true, decide_eq_true_eq, decide_eq_true_eq] at h2 h3
    have hp : pre_ma y [] a (rowOf m f) (rowOf m f).length 0 := ⟨a2, a3, rfl, rfl, rfl, h2.1, h2.2, h3.1, h3.2⟩
    have hs := (phi_ma_spec _ _ _ _ _ _ hp).2
    have hcall := ma_call sg0 cond_ma phi_ma (rowOf m f) y a
    have key : callA Try.prog ⟨addC 39 (tTrim sg0) noC, Kall, LL_ma cond_ma phi_ma noL⟩ 10 10 21 [.lst false 47 (rowOf m f).length (lim (rowOf m f)), .val (.int .u32 y), .val (.int .u32 a)] = some (sg0.lmb (vL (rowOf m f) * y.toNat + a.toNat)) := by
      rw [hcall]
      simp only [rowOf_lim', Nat.mul_one, Nat.zero_add]
      rw [cond_ma_eq _ _ _ _ _ _ hp, okB_lim a2]
      generalize phi_ma y [] a (rowOf m f) (rowOf m f).length 0 = r at *
      obtain ⟨g1, g2, k, g3, g4, g5⟩ := hs
      have e : IntKind.u32.wrap r.2.1 = (k : Int) := by rw [g4, u32w, Nat.mod_eq_of_lt (by omega)]
      have l1 : (r.1 ++ [(k : Int)]).length = r.1.length + 1 := by rw [List.length_append]; rfl
      have o1 : okL (r.1 ++ [(k : Int)]) := okL_append.2 ⟨g1, by rw [okL_cons]; exact ⟨by omega, okL_nil⟩⟩
      have v1 : vL (r.1 ++ [(k : Int)]) = vL (rowOf m f) * y.toNat + a.toNat := by rw [vL_snoc, g2, Int.toNat_natCast, g5]
      rw [e, List.take_length, l1, i64T (z := ((rowOf m f).length : Int) + 1) (by omega), dT (show (4 : Int) * (((rowOf m f).length : Int) + 1) ≤ 281474976710656 by omega), dT (show ((rowOf m f).length : Int) + 1 ≤ 9223372036854775807 by omega), u64T (show 0 ≤ a ∧ a ≤ 18446744073709551615 by omega), room64 _ (by omega), dT (Nat.le_refl r.1.length), dT (Nat.le_refl (r.1.length + 1)), ← l1, okr_lim o1 (by omega), num_lim, v1]
      rfl
    refine ⟨_, _, key, fun B w ys hr => ?_, fun B w y hr => by rw [a4]; exact hr⟩
    obtain ⟨q, zs, rfl, q1, q2⟩ := hr
    exact ⟨q, _, rfl, norm_row a1 q1, q2⟩
  · cases h
end
end Go.Proofs.Ytndpfegbbpoopaa.L
namespace Go.Proofs.Ytndpfegbbpoopaa.L
open Go Go.V Go.RowKit Go.Proofs.Ytndpfegbbpoopaa.Sp Go.Proofs.Ytndpfegbbpoopaa.F
open Go.Proofs (Try.prog)
noncomputable section
def okd (d : ByteArray) (i : Nat) : Prop := 48 ≤ byteAt d i ∧ byteAt d i ≤ 57
def dig (d : ByteArray) (i : Nat) : Nat := (byteAt d i).toNat - 48
def vT (d : ByteArray) : Nat → Nat
  | 0 => 0
  | i + 1 => vT d i * 10 + dig d i
theorem dig_lt {d : ByteArray} {i : Nat} (h : okd d i) : dig d i < 10 := by have := h.1; have := h.2; unfold dig; omega
theorem vT_lt {d : ByteArray} : ∀ {i : Nat}, (∀ j, j < i → okd d j) → vT d i < 10 ^ i
  | 0, _ => by show 0 < 1; decide
  | i + 1, h => by
    have h1 := vT_lt (d := d) (i := i) (fun j hj => h j (by omega))
    have h2 := dig_lt (h i (by omega))
    show vT d i * 10 + dig d i < _
    rw [Nat.pow_succ]
    omega
abbrev p_iP : List Bool := [false, true, false, true, false, true, false, false, true, false, true, true, true, true, true]
def sh_iP (er : Int) (d : ByteArray) (ng : Bool) (xs : List Int) (i : Int) (n : Int) (y : Int) (k : Int) (rb : Bool) (rs : ByteArray) : List AV := slots 78 [(2, .ptr 0 0), (3, .val (.int .i64 er)), (4, .val (.string d)), (5, .val (.bool ng)), (6, .lst false 47 xs.length (lim xs)), (7, .val (.int .i64 i)), (8, .val (.int .u32 n)), (9, .val (.int .u32 y)), (10, .val (.int .i64 k))]
def hp_iP (er : Int) (d : ByteArray) (ng : Bool) (xs : List Int) (i : Int) (n : Int) (y : Int) (k : Int) (rb : Bool) (rs : ByteArray) : Hp := [.row (.cells [.val (.bool rb), .val (.string rs)]) 23 .live]
theorem body_iP : subC Try.prog 7 p_iP = some (.loop (lb 7 p_iP)) := by kernel_rfl
theorem code_iP : subC Try.prog 7 (false :: p_iP) = some (lb 7 p_iP) := by kernel_rfl
theorem round_iP  (er : Int) (d : ByteArray) (ng : Bool) (xs : List Int) (i : Int) (n : Int) (y : Int) (k : Int) (rb : Bool) (rs : ByteArray) :
    (roundA Try.prog EL0 7 [2, 3, 4, 5, 6, 7, 8, 9, 10] (lb 7 p_iP) (false :: p_iP) (sh_iP er d ng xs i n y k rb rs) (hp_iP er d ng xs i n y k rb rs) = (bif decide (k < (9 : Int)) then (bif decide (i < (↑d.size : Int)) then (bif decide ((0 : Int) ≤ i) && decide (i < (↑d.size : Int)) then (bif decide (byteAt d i.toNat < (48 : Int)) then some (.ret, slots 78 [(2, (.ptr 0 0)), (3, (.val (.int .i64 3))), (4, (.val (.string d))), (5, (.val (.bool ng))), (6, (.lst false 47 xs.length (lim xs))), (7, (.val (.int .i64 i))), (8, (.val (.int .u32 n))), (9, (.val (.int .u32 y))), (10, (.val (.int .i64 k)))], [(.row (.cells [(.val (.bool false)), (.val (.string (ByteArray.mk #[])))]) 23 .live)]) else (bif decide ((57 : Int) < byteAt d i.toNat) then some (.ret, slots 78 [(2, (.ptr 0 0)), (3, (.val (.int .i64 3))), (4, (.val (.string d))), (5, (.val (.bool ng))), (6, (.lst false 47 xs.length (lim xs))), (7, (.val (.int .i64 i))), (8, (.val (.int .u32 n))), (9, (.val (.int .u32 y))), (10, (.val (.int .i64 k)))], [(.row (.cells [(.val (.bool false)), (.val (.string (ByteArray.mk #[])))]) 23 .live)]) else (bif inR IntKind.u32 (IntKind.u8.wrap (byteAt d i.toNat - (48 : Int))) then (bif inR IntKind.i64 (i + (1 : Int)) then (bif inR IntKind.i64 (k + (1 : Int)) then some (.normal, slots 78 [(2, (.ptr 0 0)), (3, (.val (.int .i64 er))), (4, (.val (.string d))), (5, (.val (.bool ng))), (6, (.lst false 47 xs.length (lim xs))), (7, (.val (.int .i64 (i + (1 : Int))))), (8, (.val (.int .u32 (IntKind.u32.wrap (IntKind.u32.wrap ((10 : Int) * n) + IntKind.u8.wrap (byteAt d i.toNat - (48 : Int))))))), (9, (.val (.int .u32 (IntKind.u32.wrap ((10 : Int) * y))))), (10, (.val (.int .i64 (k + (1 : Int)))))], [(.row (.cells [(.val (.bool rb)), (.val (.string rs))]) 23 .live)]) else none) else none) else none))) else none) else some ((.exit 2), slots 78 [(2, (.ptr 0 0)), (3, (.val (.int .i64 er))), (4, (.val (.string d))), (5, (.val (.bool ng))), (6, (.lst false 47 xs.length (lim xs))), (7, (.val (.int .i64 i))), (8, (.val (.int .u32 n))), (9, (.val (.int .u32 y))), (10, (.val (.int .i64 k)))], [(.row (.cells [(.val (.bool rb)), (.val (.string rs))]) 23 .live)])) else some ((.exit 2), slots 78 [(2, (.ptr 0 0)), (3, (.val (.int .i64 er))), (4, (.val (.string d))), (5, (.val (.bool ng))), (6, (.lst false 47 xs.length (lim xs))), (7, (.val (.int .i64 i))), (8, (.val (.int .u32 n))), (9, (.val (.int .u32 y))), (10, (.val (.int .i64 k)))], [(.row (.cells [(.val (.bool rb)), (.val (.string rs))]) 23 .live)]))) := by kernel_rfl
theorem step_iP {er : Int} {d : ByteArray} {ng : Bool} {xs : List Int} {i : Int} {n : Int} {y : Int} {k : Int} {rb : Bool} {rs : ByteArray} {e : Ex} {T : List AV} {H : Hp} (h : roundA Try.prog EL0 7 [2, 3, 4, 5, 6, 7, 8, 9, 10] (lb 7 p_iP) (false :: p_iP) (sh_iP er d ng xs i n y k rb rs) (hp_iP er d ng xs i n y k rb rs) = some (e, T, H)) : V.Ends Try.prog false 0 0 (lb 7 p_iP) (sh_iP er d ng xs i n y k rb rs) (hp_iP er d ng xs i n y k rb rs) e T H :=
  round_ends (meets_none _) loops_none mixed code_iP h
abbrev p_iQ : List Bool := [false, true, false, true, false, true, false, false, true, false, true, true, true, true, true]
def sh_iQ (er : Int) (d : ByteArray) (ng : Bool) (xs : List Int) (i : Int) (n : Int) (y : Int) (k : Int) (rb : Bool) (rs : ByteArray) : List AV := slots 78 [(2, .ptr 0 0), (3, .val (.int .i64 er)), (4, .val (.string d)), (5, .val (.bool ng)), (6, .lst false 47 xs.length (lim xs)), (7, .val (.int .i64 i)), (8, .val (.int .u32 n)), (9, .val (.int .u32 y)), (10, .val (.int .i64 k))]
def hp_iQ (er : Int) (d : ByteArray) (ng : Bool) (xs : List Int) (i : Int) (n : Int) (y : Int) (k : Int) (rb : Bool) (rs : ByteArray) : Hp := [.row (.cells [.val (.bool rb), .val (.string rs)]) 23 .live]
theorem body_iQ : subC Try.prog 7 p_iQ = some (.loop (lb 7 p_iQ)) := by kernel_rfl
def pre_iP (er : Int) (d : ByteArray) (ng : Bool) (xs : List Int) (i n y k : Int) (rb : Bool) (rs : ByteArray) : Prop := n = 0 ∧ y = 1 ∧ k = 0 ∧ ∃ j : Nat, i = j ∧ j < d.size ∧ d.size ≤ 1000000 ∧ ∀ l, j ≤ l → l < j + 9 → l < d.size → okd d l
def grp (d : ByteArray) (j : Nat) (ρ : Int × Int × Int × Int) : Prop := ∃ k' n' : Nat, ρ.1 = ((j + k' : Nat) : Int) ∧ 0 < k' ∧ k' ≤ 9 ∧ j + k' ≤ d.size ∧ ρ.2.1 = n' ∧ n' < 10 ^ k' ∧ ρ.2.2.1 = ((10 ^ k' : Nat) : Int) ∧ vT d (j + k') = vT d j * 10 ^ k' + n'
def post_iP (er : Int) (d : ByteArray) (ng : Bool) (xs : List Int) (i n y k : Int) (rb : Bool) (rs : ByteArray) (ρ : Int × Int × Int × Int) : Prop := grp d i.toNat ρ
theorem p9 {k : Nat} (h : k ≤ 9) : 10 ^ k ≤ 1000000000 := Nat.le_trans (Nat.pow_le_pow_right (by decide) h) (by decide)
theorem iP_dig (er : Int) (d : ByteArray) (ng : Bool) (xs : List Int) (rb : Bool) (rs : ByteArray) {j k n : Nat} (hk : k < 9) (hj : j < d.size) (hd : d.size ≤ 1000000) (ho : okd d j) (hn : n < 10 ^ k) :
    roundA Try.prog EL0 7 [2, 3, 4, 5, 6, 7, 8, 9, 10] (lb 7 p_iP) (false :: p_iP) (sh_iP er d ng xs j n ((10 ^ k : Nat) : Int) k rb rs) (hp_iP er d ng xs j n ((10 ^ k : Nat) : Int) k rb rs) = some (.normal, sh_iP er d ng xs ((j + 1 : Nat) : Int) ((n * 10 + dig d j : Nat) : Int) ((10 ^ (k + 1) : Nat) : Int) ((k + 1 : Nat) : Int) rb rs, hp_iP er d ng xs ((j + 1 : Nat) : Int) ((n * 10 + dig d j : Nat) : Int) ((10 ^ (k + 1) : Nat) : Int) ((k + 1 : Nat) : Int) rb rs) := by
  have h9 := p9 (show k ≤ 9 by omega)
  have h91 := p9 (show k + 1 ≤ 9 by omega)
  rw [Nat.pow_succ] at h91 ⊢
  obtain ⟨o1, o2⟩ := ho
  have hdg : dig d j = (byteAt d j).toNat - 48 := rfl
  generalize hp : 10 ^ k = p at *
  rw [round_iP, Int.toNat_natCast]
  generalize hb : byteAt d j = b at *
  obtain ⟨c, rfl⟩ := Int.eq_ofNat_of_zero_le (show 0 ≤ b by omega)
  have e1 : IntKind.u8.wrap ((c : Int) - 48) = ((c - 48 : Nat) : Int) := by rw [IntKind.wrap_u8]; omega
  have e2 : IntKind.u32.wrap (10 * (n : Int)) = ((n * 10 : Nat) : Int) := by rw [IntKind.wrap_u32]; omega
  have e3 : IntKind.u32.wrap (((n * 10 : Nat) : Int) + ((c - 48 : Nat) : Int)) = ((n * 10 + (c - 48) : Nat) : Int) := by rw [IntKind.wrap_u32]; omega
  have e4 : IntKind.u32.wrap (10 * ((p : Nat) : Int)) = ((p * 10 : Nat) : Int) := by rw [IntKind.wrap_u32]; omega
  rw [Int.toNat_natCast] at hdg
  rw [e1, e2, e3, e4, hdg, dT (show (k : Int) < 9 by omega), dT (show (j : Int) < (d.size : Int) by omega), dT (show (0 : Int) ≤ (j : Int) by omega), dF (show ¬ (c : Int) < 48 by omega), dF (show ¬ (57 : Int) < (c : Int) by omega), u32T (z := ((c - 48 : Nat) : Int)) (by omega), i64T (z := (j : Int) + 1) (by omega), i64T (z := (k : Int) + 1) (by omega)]
  rfl
theorem iP_go (er : Int) (d : ByteArray) (ng : Bool) (xs : List Int) (rb : Bool) (rs : ByteArray) (j : Nat) (hj : j < d.size) (hd : d.size ≤ 1000000) (ho : ∀ l, j ≤ l → l < j + 9 → l < d.size → okd d l) (m : Nat) : ∀ (k n : Nat), k + m = 9 → j + k ≤ d.size → n < 10 ^ k → vT d (j + k) = vT d j * 10 ^ k + n → (k = 0 → True) →
    ∃ ρ : Int × Int × Int × Int, LoopTo Try.prog (lb 7 p_iP) (sh_iP er d ng xs ((j + k : Nat) : Int) n ((10 ^ k : Nat) : Int) k rb rs) (hp_iP er d ng xs ((j + k : Nat) : Int) n ((10 ^ k : Nat) : Int) k rb rs) (.exit 2) (sh_iP er d ng xs ρ.1 ρ.2.1 ρ.2.2.1 ρ.2.2.2 rb rs) (hp_iP er d ng xs ρ.1 ρ.2.1 ρ.2.2.1 ρ.2.2.2 rb rs) ∧ grp d j ρ := by
  have fin : ∀ (k n : Nat), k ≤ 9 → 0 < k → j + k ≤ d.size → n < 10 ^ k → vT d (j + k) = vT d j * 10 ^ k + n → grp d j (((j + k : Nat) : Int), (n : Int), ((10 ^ k : Nat) : Int), (k : Int)) := fun k n h1 h0 h2 h3 h4 => ⟨k, n, rfl, h0, h1, h2, rfl, h3, rfl, h4⟩
  induction m with
  | zero =>
    intro k n hk h1 h2 h3 _
    have hk : k = 9 := by omega
    subst hk
    refine ⟨_, .last (step_iP ?_) (by intro h; cases h), fin 9 n (Nat.le_refl _) (by decide) h1 h2 h3⟩
    rw [round_iP, dF (show ¬ ((9 : Nat) : Int) < 9 by decide)]
    rfl
  | succ m ih =>
    intro k n hk h1 h2 h3 _
    by_cases hs : j + k < d.size
    · have hok := ho (j + k) (by omega) (by omega) hs
      have hdl := dig_lt hok
      obtain ⟨ρ, g1, g2⟩ := ih (k + 1) (n * 10 + dig d (j + k)) (by omega) (by omega) (by rw [Nat.pow_succ]; omega) (by
        show vT d (j + k) * 10 + dig d (j + k) = _
        rw [h3, Nat.pow_succ, Nat.add_mul, Nat.mul_assoc]; omega) (fun h => trivial)
      exact ⟨ρ, .more (step_iP (iP_dig er d ng xs rb rs (by omega) hs hd hok h2)) g1, g2⟩
    · have hk0 : 0 < k := by omega
      refine ⟨_, .last (step_iP ?_) (by intro h; cases h), fin k n (by omega) hk0 h1 h2 h3⟩
      rw [round_iP, dT (show (k : Int) < 9 by omega), dF (show ¬ ((j + k : Nat) : Int) < (d.size : Int) by omega)]
      rfl
theorem loop_iP (er : Int) (d : ByteArray) (ng : Bool) (xs : List Int) (i n y k : Int) (rb : Bool) (rs : ByteArray) (h : pre_iP er d ng xs i n y k rb rs) : ∃ ρ : Int × Int × Int × Int, LoopTo Try.prog (lb 7 p_iP) (sh_iP er d ng xs i n y k rb rs) (hp_iP er d ng xs i n y k rb rs) (.exit 2) (sh_iP er d ng xs ρ.1 ρ.2.1 ρ.2.2.1 ρ.2.2.2 rb rs) (hp_iP er d ng xs ρ.1 ρ.2.1 ρ.2.2.1 ρ.2.2.2 rb rs) ∧ post_iP er d ng xs i n y k rb rs ρ := by
  obtain ⟨rfl, rfl, rfl, j, rfl, hj, hd, ho⟩ := h
  exact iP_go er d ng xs rb rs j hj hd ho 9 0 0 rfl (by omega) (by decide) (by rw [Nat.pow_zero, Nat.mul_one]; rfl) (fun _ => trivial)
def told_iP (κ : Int → ByteArray → Bool → List Int → Int → Int → Int → Int → Bool → ByteArray → Bool) (φ : Int → ByteArray → Bool → List Int → Int → Int → Int → Int → Bool → ByteArray → Int × Int × Int × Int) (T : List AV) (H : Hp) : Option (Bool × Ex × List AV × Hp) :=
  match lget T 2, lget T 3, lget T 4, lget T 5, lget T 6, lget T 7, lget T 8, lget T 9, lget T 10, H with
  | .ptr 0 0, .val (.int .i64 er), .val (.string d), .val (.bool ng), .lst false 47 m_xs f_xs, .val (.int .i64 i), .val (.int .u32 n), .val (.int .u32 y), .val (.int .i64 k), [.row (.cells [.val (.bool rb), .val (.string rs)]) 23 .live] => bif T.length == 78 then some (okB m_xs f_xs && κ er d ng (rowOf m_xs f_xs) i n y k rb rs, .exit 2, sh_iP er d ng (rowOf m_xs f_xs) ((φ er d ng (rowOf m_xs f_xs) i n y k rb rs).1) ((φ er d ng (rowOf m_xs f_xs) i n y k rb rs).2.1) ((φ er d ng (rowOf m_xs f_xs) i n y k rb rs).2.2.1) ((φ er d ng (rowOf m_xs f_xs) i n y k rb rs).2.2.2) rb rs, hp_iP er d ng (rowOf m_xs f_xs) ((φ er d ng (rowOf m_xs f_xs) i n y k rb rs).1) ((φ er d ng (rowOf m_xs f_xs) i n y k rb rs).2.1) ((φ er d ng (rowOf m_xs f_xs) i n y k rb rs).2.2.1) ((φ er d ng (rowOf m_xs f_xs) i n y k rb rs).2.2.2) rb rs) else none
  | _, _, _, _, _, _, _, _, _, _ => none
abbrev KT_iP : Type := Int → ByteArray → Bool → List Int → Int → Int → Int → Int → Bool → ByteArray → Bool
abbrev FT_iP : Type := Int → ByteArray → Bool → List Int → Int → Int → Int → Int → Bool → ByteArray → Int × Int × Int × Int
def LL_iP (κ : KT_iP) (φ : FT_iP) (L : LTab) : LTab := addLn 0 7 p_iP [2, 3, 4, 5, 6, 7, 8, 9, 10] (told_iP κ φ) L
def phi_iP (er : Int) (d : ByteArray) (ng : Bool) (xs : List Int) (i : Int) (n : Int) (y : Int) (k : Int) (rb : Bool) (rs : ByteArray) : Int × Int × Int × Int := Classical.epsilon fun ρ => LoopTo Try.prog (lb 7 p_iP) (sh_iP er d ng xs i n y k rb rs) (hp_iP er d ng xs i n y k rb rs) (.exit 2) (sh_iP er d ng xs (ρ.1) (ρ.2.1) (ρ.2.2.1) (ρ.2.2.2) rb rs) (hp_iP er d ng xs (ρ.1) (ρ.2.1) (ρ.2.2.1) (ρ.2.2.2) rb rs) ∧ post_iP er d ng xs i n y k rb rs ρ
theorem phi_iP_spec (er : Int) (d : ByteArray) (ng : Bool) (xs : List Int) (i : Int) (n : Int) (y : Int) (k : Int) (rb : Bool) (rs : ByteArray) (h : pre_iP er d ng xs i n y k rb rs) : LoopTo Try.prog (lb 7 p_iP) (sh_iP er d ng xs i n y k rb rs) (hp_iP er d ng xs i n y k rb rs) (.exit 2) (sh_iP er d ng xs ((phi_iP er d ng xs i n y k rb rs).1) ((phi_iP er d ng xs i n y k rb rs).2.1) ((phi_iP er d ng xs i n y k rb rs).2.2.1) ((phi_iP er d ng xs i n y k rb rs).2.2.2) rb rs) (hp_iP er d ng xs ((phi_iP er d ng xs i n y k rb rs).1) ((phi_iP er d ng xs i n y k rb rs).2.1) ((phi_iP er d ng xs i n y k rb rs).2.2.1) ((phi_iP er d ng xs i n y k rb rs).2.2.2) rb rs) ∧ post_iP er d ng xs i n y k rb rs (phi_iP er d ng xs i n y k rb rs) := Classical.epsilon_spec (loop_iP er d ng xs i n y k rb rs h)
def cond_iP (er : Int) (d : ByteArray) (ng : Bool) (xs : List Int) (i : Int) (n : Int) (y : Int) (k : Int) (rb : Bool) (rs : ByteArray) : Bool := @decide (pre_iP er d ng xs i n y k rb rs) (Classical.propDecidable _)
theorem cond_iP_eq (er : Int) (d : ByteArray) (ng : Bool) (xs : List Int) (i : Int) (n : Int) (y : Int) (k : Int) (rb : Bool) (rs : ByteArray) (h : pre_iP er d ng xs i n y k rb rs) : cond_iP er d ng xs i n y k rb rs = true := @decide_eq_true _ (Classical.propDecidable _) h
theorem told_iP_ok (T : List AV) (H : Hp) (e : Ex) (T1 : List AV) (H1 : Hp) (h : told_iP cond_iP phi_iP T H = some (true, e, T1, H1)) : V.Ends Try.prog false 0 0 (.loop (lb 7 p_iP)) T H e T1 H1 := by
  unfold told_iP at h
  split at h
  · rename_i er d ng m_xs f_xs i n y k rb rs h2 h3 h4 h5 h6 h7 h8 h9 h10
    rw [Bool.cond_eq_ite] at h
    split at h
    · rename_i hlen
      rw [beq_iff_eq] at hlen
      simp only [Option.some.injEq, Prod.mk.injEq, Bool.and_eq_true, decide_eq_true_eq] at h
      obtain ⟨⟨k1, k2⟩, rfl, rfl, rfl⟩ := h
      have kc := @of_decide_eq_true _ (Classical.propDecidable _) k2
      refine Ends.pre (phi_iP_spec er d ng (rowOf m_xs f_xs) i n y k rb rs kc).1.ends (fun α B w D ys hr => slots_rel hlen (fun p hp y hy => ?_) hr)
      simp only [List.mem_cons, List.not_mem_nil, or_false] at hp
      rcases hp with rfl | rfl | rfl | rfl | rfl | rfl | rfl | rfl | rfl
      · rw [h2] at hy; exact hy
      · rw [h3] at hy; exact hy
      · rw [h4] at hy; exact hy
      · rw [h5] at hy; exact hy
      · rw [h6] at hy; rw [rowOf_len]; exact row_norm cells47 k1 hy
      · rw [h7] at hy; exact hy
      · rw [h8] at hy; exact hy
      · rw [h9] at hy; exact hy
      · rw [h10] at hy; exact hy
    · cases h
  · cases h
theorem LL_iP_ok {L : LTab} (h : LOk Try.prog L) : LOk Try.prog (LL_iP cond_iP phi_iP L) := h.add2n body_iP told_iP_ok
def pre_iQ (er : Int) (d : ByteArray) (ng : Bool) (xs : List Int) (i n y k : Int) (rb : Bool) (rs : ByteArray) : Prop := n = 0 ∧ y = 1 ∧ k = 0 ∧ ∃ j m : Nat, i = j ∧ m < 9 ∧ j + m < d.size ∧ d.size ≤ 1000000 ∧ (∀ l, j ≤ l → l < j + m → okd d l) ∧ ¬ okd d (j + m)
def post_iQ (er : Int) (d : ByteArray) (ng : Bool) (xs : List Int) (i n y k : Int) (rb : Bool) (rs : ByteArray) (ρ : Int × Int × Int × Int × Int × Bool × ByteArray) : Prop := ρ.1 = 3 ∧ ρ.2.2.2.2.2.1 = false ∧ ρ.2.2.2.2.2.2 = ByteArray.mk #[]
theorem iQ_go (er : Int) (d : ByteArray) (ng : Bool) (xs : List Int) (rb : Bool) (rs : ByteArray) (j : Nat) (hd : d.size ≤ 1000000) (m : Nat) : ∀ (k n : Nat), k + m < 9 → j + k + m < d.size → (∀ l, j ≤ l → l < j + k + m → okd d l) → ¬ okd d (j + k + m) → n < 10 ^ k →
    ∃ ρ : Int × Int × Int × Int × Int × Bool × ByteArray, LoopTo Try.prog (lb 7 p_iP) (sh_iP er d ng xs ((j + k : Nat) : Int) n ((10 ^ k : Nat) : Int) k rb rs) (hp_iP er d ng xs ((j + k : Nat) : Int) n ((10 ^ k : Nat) : Int) k rb rs) .ret (sh_iP ρ.1 d ng xs ρ.2.1 ρ.2.2.1 ρ.2.2.2.1 ρ.2.2.2.2.1 ρ.2.2.2.2.2.1 ρ.2.2.2.2.2.2) (hp_iP ρ.1 d ng xs ρ.2.1 ρ.2.2.1 ρ.2.2.2.1 ρ.2.2.2.2.1 ρ.2.2.2.2.2.1 ρ.2.2.2.2.2.2) ∧ ρ.1 = 3 ∧ ρ.2.2.2.2.2.1 = false ∧ ρ.2.2.2.2.2.2 = ByteArray.mk #[] := by
  induction m with
  | zero =>
    intro k n hk hs ho hb hn
    rw [Nat.add_zero] at hb hs
    refine ⟨(3, ((j + k : Nat) : Int), (n : Int), ((10 ^ k : Nat) : Int), (k : Int), false, ByteArray.mk #[]), .last (step_iP ?_) (by intro h; cases h), rfl, rfl, rfl⟩
    rw [round_iP, Int.toNat_natCast, dT (show (k : Int) < 9 by omega), dT (show ((j + k : Nat) : Int) < (d.size : Int) by omega), dT (show (0 : Int) ≤ ((j + k : Nat) : Int) by omega)]
    by_cases h1 : byteAt d (j + k) < 48
    · rw [dT h1]; rfl
    · have h2 : 57 < byteAt d (j + k) := by
        refine Int.lt_of_not_ge fun h => hb ⟨by omega, h⟩
      rw [dF h1, dT h2]; rfl
  | succ m ih =>
    intro k n hk hs ho hb hn
    have hok := ho (j + k) (by omega) (by omega)
    have hdl := dig_lt hok
    obtain ⟨ρ, g1, g2⟩ := ih (k + 1) (n * 10 + dig d (j + k)) (by omega) (by omega) (fun l h1 h2 => ho l h1 (by omega)) (by rw [show j + (k + 1) + m = j + k + (m + 1) by omega]; exact hb) (by rw [Nat.pow_succ]; omega)
    exact ⟨ρ, .more (step_iP (iP_dig er d ng xs rb rs (by omega) (by omega) hd hok hn)) g1, g2⟩
theorem loop_iQ (er : Int) (d : ByteArray) (ng : Bool) (xs : List Int) (i n y k : Int) (rb : Bool) (rs : ByteArray) (h : pre_iQ er d ng xs i n y k rb rs) : ∃ ρ : Int × Int × Int × Int × Int × Bool × ByteArray, LoopTo Try.prog (lb 7 p_iQ) (sh_iQ er d ng xs i n y k rb rs) (hp_iQ er d ng xs i n y k rb rs) .ret (sh_iQ ρ.1 d ng xs ρ.2.1 ρ.2.2.1 ρ.2.2.2.1 ρ.2.2.2.2.1 ρ.2.2.2.2.2.1 ρ.2.2.2.2.2.2) (hp_iQ ρ.1 d ng xs ρ.2.1 ρ.2.2.1 ρ.2.2.2.1 ρ.2.2.2.2.1 ρ.2.2.2.2.2.1 ρ.2.2.2.2.2.2) ∧ post_iQ er d ng xs i n y k rb rs ρ := by
  obtain ⟨rfl, rfl, rfl, j, m, rfl, hm, hj, hd, ho, hb⟩ := h
  exact iQ_go er d ng xs rb rs j hd m 0 0 (by omega) hj ho hb (by decide)
def told_iQ (κ : Int → ByteArray → Bool → List Int → Int → Int → Int → Int → Bool → ByteArray → Bool) (φ : Int → ByteArray → Bool → List Int → Int → Int → Int → Int → Bool → ByteArray → Int × Int × Int × Int × Int × Bool × ByteArray) (T : List AV) (H : Hp) : Option (Bool × Ex × List AV × Hp) :=
  match lget T 2, lget T 3, lget T 4, lget T 5, lget T 6, lget T 7, lget T 8, lget T 9, lget T 10, H with
  | .ptr 0 0, .val (.int .i64 er), .val (.string d), .val (.bool ng), .lst false 47 m_xs f_xs, .val (.int .i64 i), .val (.int .u32 n), .val (.int .u32 y), .val (.int .i64 k), [.row (.cells [.val (.bool rb), .val (.string rs)]) 23 .live] => bif T.length == 78 then some (okB m_xs f_xs && κ er d ng (rowOf m_xs f_xs) i n y k rb rs, .ret, sh_iQ ((φ er d ng (rowOf m_xs f_xs) i n y k rb rs).1) d ng (rowOf m_xs f_xs) ((φ er d ng (rowOf m_xs f_xs) i n y k rb rs).2.1) ((φ er d ng (rowOf m_xs f_xs) i n y k rb rs).2.2.1) ((φ er d ng (rowOf m_xs f_xs) i n y k rb rs).2.2.2.1) ((φ er d ng (rowOf m_xs f_xs) i n y k rb rs).2.2.2.2.1) ((φ er d ng (rowOf m_xs f_xs) i n y k rb rs).2.2.2.2.2.1) ((φ er d ng (rowOf m_xs f_xs) i n y k rb rs).2.2.2.2.2.2), hp_iQ ((φ er d ng (rowOf m_xs f_xs) i n y k rb rs).1) d ng (rowOf m_xs f_xs) ((φ er d ng (rowOf m_xs f_xs) i n y k rb rs).2.1) ((φ er d ng (rowOf m_xs f_xs) i n y k rb rs).2.2.1) ((φ er d ng (rowOf m_xs f_xs) i n y k rb rs).2.2.2.1) ((φ er d ng (rowOf m_xs f_xs) i n y k rb rs).2.2.2.2.1) ((φ er d ng (rowOf m_xs f_xs) i n y k rb rs).2.2.2.2.2.1) ((φ er d ng (rowOf m_xs f_xs) i n y k rb rs).2.2.2.2.2.2)) else none
  | _, _, _, _, _, _, _, _, _, _ => none
abbrev KT_iQ : Type := Int → ByteArray → Bool → List Int → Int → Int → Int → Int → Bool → ByteArray → Bool
abbrev FT_iQ : Type := Int → ByteArray → Bool → List Int → Int → Int → Int → Int → Bool → ByteArray → Int × Int × Int × Int × Int × Bool × ByteArray
def LL_iQ (κ : KT_iQ) (φ : FT_iQ) (L : LTab) : LTab := addLn 0 7 p_iQ [2, 3, 4, 5, 6, 7, 8, 9, 10] (told_iQ κ φ) L
def phi_iQ (er : Int) (d : ByteArray) (ng : Bool) (xs : List Int) (i : Int) (n : Int) (y : Int) (k : Int) (rb : Bool) (rs : ByteArray) : Int × Int × Int × Int × Int × Bool × ByteArray := Classical.epsilon fun ρ => LoopTo Try.prog (lb 7 p_iQ) (sh_iQ er d ng xs i n y k rb rs) (hp_iQ er d ng xs i n y k rb rs) (.ret) (sh_iQ (ρ.1) d ng xs (ρ.2.1) (ρ.2.2.1) (ρ.2.2.2.1) (ρ.2.2.2.2.1) (ρ.2.2.2.2.2.1) (ρ.2.2.2.2.2.2)) (hp_iQ (ρ.1) d ng xs (ρ.2.1) (ρ.2.2.1) (ρ.2.2.2.1) (ρ.2.2.2.2.1) (ρ.2.2.2.2.2.1) (ρ.2.2.2.2.2.2)) ∧ post_iQ er d ng xs i n y k rb rs ρ
theorem phi_iQ_spec (er : Int) (d : ByteArray) (ng : Bool) (xs : List Int) (i : Int) (n : Int) (y : Int) (k : Int) (rb : Bool) (rs : ByteArray) (h : pre_iQ er d ng xs i n y k rb rs) : LoopTo Try.prog (lb 7 p_iQ) (sh_iQ er d ng xs i n y k rb rs) (hp_iQ er d ng xs i n y k rb rs) (.ret) (sh_iQ ((phi_iQ er d ng xs i n y k rb rs).1) d ng xs ((phi_iQ er d ng xs i n y k rb rs).2.1) ((phi_iQ er d ng xs i n y k rb rs).2.2.1) ((phi_iQ er d ng xs i n y k rb rs).2.2.2.1) ((phi_iQ er d ng xs i n y k rb rs).2.2.2.2.1) ((phi_iQ er d ng xs i n y k rb rs).2.2.2.2.2.1) ((phi_iQ er d ng xs i n y k rb rs).2.2.2.2.2.2)) (hp_iQ ((phi_iQ er d ng xs i n y k rb rs).1) d ng xs ((phi_iQ er d ng xs i n y k rb rs).2.1) ((phi_iQ er d ng xs i n y k rb rs).2.2.1) ((phi_iQ er d ng xs i n y k rb rs).2.2.2.1) ((phi_iQ er d ng xs i n y k rb rs).2.2.2.2.1) ((phi_iQ er d ng xs i n y k rb rs).2.2.2.2.2.1) ((phi_iQ er d ng xs i n y k rb rs).2.2.2.2.2.2)) ∧ post_iQ er d ng xs i n y k rb rs (phi_iQ er d ng xs i n y k rb rs) := Classical.epsilon_spec (loop_iQ er d ng xs i n y k rb rs h)
def cond_iQ (er : Int) (d : ByteArray) (ng : Bool) (xs : List Int) (i : Int) (n : Int) (y : Int) (k : Int) (rb : Bool) (rs : ByteArray) : Bool := @decide (pre_iQ er d ng xs i n y k rb rs) (Classical.propDecidable _)
theorem cond_iQ_eq (er : Int) (d : ByteArray) (ng : Bool) (xs : List Int) (i : Int) (n : Int) (y : Int) (k : Int) (rb : Bool) (rs : ByteArray) (h : pre_iQ er d ng xs i n y k rb rs) : cond_iQ er d ng xs i n y k rb rs = true := @decide_eq_true _ (Classical.propDecidable _) h
theorem told_iQ_ok (T : List AV) (H : Hp) (e : Ex) (T1 : List AV) (H1 : Hp) (h : told_iQ cond_iQ phi_iQ T H = some (true, e, T1, H1)) : V.Ends Try.prog false 0 0 (.loop (lb 7 p_iQ)) T H e T1 H1 := by
  unfold told_iQ at h
  split at h
  · rename_i er d ng m_xs f_xs i n y k rb rs h2 h3 h4 h5 h6 h7 h8 h9 h10
    rw [Bool.cond_eq_ite] at h
    split at h
    · rename_i hlen
      rw [beq_iff_eq] at hlen
      simp only [Option.some.injEq, Prod.mk.injEq, Bool.and_eq_true, decide_eq_true_eq] at h
      obtain ⟨⟨k1, k2⟩, rfl, rfl, rfl⟩ := h
      have kc := @of_decide_eq_true _ (Classical.propDecidable _) k2
      refine Ends.pre (phi_iQ_spec er d ng (rowOf m_xs f_xs) i n y k rb rs kc).1.ends (fun α B w D ys hr => slots_rel hlen (fun p hp y hy => ?_) hr)
      simp only [List.mem_cons, List.not_mem_nil, or_false] at hp
      rcases hp with rfl | rfl | rfl | rfl | rfl | rfl | rfl | rfl | rfl
      · rw [h2] at hy; exact hy
      · rw [h3] at hy; exact hy
      · rw [h4] at hy; exact hy
      · rw [h5] at hy; exact hy
      · rw [h6] at hy; rw [rowOf_len]; exact row_norm cells47 k1 hy
      · rw [h7] at hy; exact hy
      · rw [h8] at hy; exact hy
      · rw [h9] at hy; exact hy
      · rw [h10] at hy; exact hy
    · cases h
  · cases h
theorem LL_iQ_ok {L : LTab} (h : LOk Try.prog L) : LOk Try.prog (LL_iQ cond_iQ phi_iQ L) := h.add2n body_iQ told_iQ_ok
end
end Go.Proofs.Ytndpfegbbpoopaa.L
namespace Go.Proofs.Ytndpfegbbpoopaa.L
open Go Go.V Go.RowKit Go.Proofs.Ytndpfegbbpoopaa.Sp Go.Proofs.Ytndpfegbbpoopaa.F
open Go.Proofs (Try.prog)
noncomputable section
def CMa (S : Sg) : FuncId → List AV → Option (Bool × AV) := addC 21 (tMuladd S) noC
def EpG (S : Sg) (κ : KT_iP) (φ : FT_iP) : Env := ⟨CMa S, fun _ => false, LL_iP κ φ noL⟩
def EpB (S : Sg) (κ : KT_iQ) (φ : FT_iQ) : Env := ⟨CMa S, fun _ => false, LL_iQ κ φ noL⟩
abbrev p_pO : List Bool := [false, true, false, true, true, true, true, true]
def sh_pO (er : Int) (d : ByteArray) (ng : Bool) (xs : List Int) (i : Int) (rb : Bool) (rs : ByteArray) : List AV := slots 78 [(2, .ptr 0 0), (3, .val (.int .i64 er)), (4, .val (.string d)), (5, .val (.bool ng)), (6, .lst false 47 xs.length (lim xs)), (7, .val (.int .i64 i))]
def hp_pO (er : Int) (d : ByteArray) (ng : Bool) (xs : List Int) (i : Int) (rb : Bool) (rs : ByteArray) : Hp := [.row (.cells [.val (.bool rb), .val (.string rs)]) 23 .live]
theorem body_pO : subC Try.prog 7 p_pO = some (.loop (lb 7 p_pO)) := by kernel_rfl
theorem code_pO : subC Try.prog 7 (false :: p_pO) = some (lb 7 p_pO) := by kernel_rfl
theorem round_pO (S : Sg) (κ : KT_iP) (φ : FT_iP) (er : Int) (d : ByteArray) (ng : Bool) (xs : List Int) (i : Int) (rb : Bool) (rs : ByteArray) : letI q_2 := (rowOf xs.length (lim xs)); letI q_1 := (φ er d ng q_2 i (0 : Int) (1 : Int) (0 : Int) rb rs);
    (roundA Try.prog (EpG S κ φ) 7 [2, 3, 4, 5, 6, 7] (lb 7 p_pO) (false :: p_pO) (sh_pO er d ng xs i rb rs) (hp_pO er d ng xs i rb rs) = (bif decide (i < (↑d.size : Int)) then (bif okB xs.length (lim xs) && κ er d ng q_2 i (0 : Int) (1 : Int) (0 : Int) rb rs then (bif S.oks q_2.length (lim q_2) && inU q_1.snd.snd.fst && inU q_1.snd.fst then some (.normal, slots 78 [(2, (.ptr 0 0)), (3, (.val (.int .i64 er))), (4, (.val (.string d))), (5, (.val (.bool ng))), (6, (.lst false 47 (S.len (S.num q_2.length (lim q_2) * q_1.snd.snd.fst.toNat + q_1.snd.fst.toNat)) (S.row (S.num q_2.length (lim q_2) * q_1.snd.snd.fst.toNat + q_1.snd.fst.toNat)))), (7, (.val (.int .i64 (q_1.fst))))], [(.row (.cells [(.val (.bool rb)), (.val (.string rs))]) 23 .live)]) else none) else none) else some ((.exit 0), slots 78 [(2, (.ptr 0 0)), (3, (.val (.int .i64 er))), (4, (.val (.string d))), (5, (.val (.bool ng))), (6, (.lst false 47 xs.length (lim xs))), (7, (.val (.int .i64 i)))], [(.row (.cells [(.val (.bool rb)), (.val (.string rs))]) 23 .live)]))) := by kernel_rfl
theorem step_pO {er : Int} {d : ByteArray} {ng : Bool} {xs : List Int} {i : Int} {rb : Bool} {rs : ByteArray} {e : Ex} {T : List AV} {H : Hp} (h : roundA Try.prog (EpG sg0 cond_iP phi_iP) 7 [2, 3, 4, 5, 6, 7] (lb 7 p_pO) (false :: p_pO) (sh_pO er d ng xs i rb rs) (hp_pO er d ng xs i rb rs) = some (e, T, H)) : V.Ends Try.prog false 0 0 (lb 7 p_pO) (sh_pO er d ng xs i rb rs) (hp_pO er d ng xs i rb rs) e T H :=
  round_ends ((meets_none _).add eMuladd) (LL_iP_ok LOk.none).ok mixed code_pO h
theorem nil_lst {t : TypeId} {α : Nat → Nat × Nat} {B : Nat → Prop} {w : World} {D : Nat → Prop} {x : Value} (h : (AV.val (.slice none 0 0)).Rel Try.prog α B w D x) : (AV.lst false t ([] : List Int).length (lim [])).Rel Try.prog α B w D x :=
  ⟨none, 0, h, Nat.le_refl _, (fun h => by cases h), .inl rfl⟩
theorem bs_dec {n i : Nat} (h : n < 10 ^ i) : bs n ≤ i := bs_le (Nat.lt_of_lt_of_le h (Nat.pow_le_pow_left (by decide) i))
theorem oks_dec {n i : Nat} (h : n < 10 ^ i) (hi : i ≤ 1000000) : sg0.oks (toL n).length (lim (toL n)) = true := oks_row (by have := bs_dec h; omega)
theorem num_toL' (n : Nat) : sg0.num (toL n).length (lim (toL n)) = n := num_row n
def pre_pO (er : Int) (d : ByteArray) (ng : Bool) (xs : List Int) (i : Int) (rb : Bool) (rs : ByteArray) : Prop := xs = [] ∧ i = 0 ∧ d.size ≤ 1000000 ∧ ∀ l, l < d.size → okd d l
def post_pO (er : Int) (d : ByteArray) (ng : Bool) (xs : List Int) (i : Int) (rb : Bool) (rs : ByteArray) (ρ : List Int × Int) : Prop := ρ.1 = toL (vT d d.size)
theorem pO_step (er : Int) (d : ByteArray) (ng : Bool) (rb : Bool) (rs : ByteArray) (hd : d.size ≤ 1000000) {i : Nat} (hi : i < d.size) (hv : vT d i < 10 ^ i) (ho : ∀ l, i ≤ l → l < i + 9 → l < d.size → okd d l) : ∃ k, 0 < k ∧ k ≤ 9 ∧ i + k ≤ d.size ∧ vT d (i + k) < 10 ^ (i + k) ∧
    V.Ends Try.prog false 0 0 (lb 7 p_pO) (sh_pO er d ng (toL (vT d i)) i rb rs) (hp_pO er d ng (toL (vT d i)) i rb rs) .normal (sh_pO er d ng (toL (vT d (i + k))) ((i + k : Nat) : Int) rb rs) (hp_pO er d ng (toL (vT d (i + k))) ((i + k : Nat) : Int) rb rs) := by
  have hq : pre_iP er d ng (toL (vT d i)) i 0 1 0 rb rs := ⟨rfl, rfl, rfl, i, rfl, hi, hd, ho⟩
  have hs := (phi_iP_spec _ _ _ _ _ _ _ _ _ _ hq).2
  have hr := round_pO sg0 cond_iP phi_iP er d ng (toL (vT d i)) i rb rs
  simp only [rowOf_lim', num_toL'] at hr
  rw [cond_iP_eq _ _ _ _ _ _ _ _ _ _ hq, show okB (toL (vT d i)).length (lim (toL (vT d i))) = true from okB_enc _, oks_dec hv (by omega), dT (show (i : Int) < (d.size : Int) by omega)] at hr
  generalize phi_iP er d ng (toL (vT d i)) i 0 1 0 rb rs = ρ at *
  obtain ⟨k, n, g1, g2, g3, g4, g5, g6, g7, g8⟩ := hs
  rw [Int.toNat_natCast] at g1 g4 g8
  have h9 := p9 g3
  have u1 : inU ((10 ^ k : Nat) : Int) = true := by unfold inU; rw [Bool.and_eq_true, decide_eq_true_eq, decide_eq_true_eq]; omega
  have u2 : inU ((n : Nat) : Int) = true := by unfold inU; rw [Bool.and_eq_true, decide_eq_true_eq, decide_eq_true_eq]; omega
  rw [g7, g5, g1, u1, u2, Int.toNat_natCast, Int.toNat_natCast, ← g8] at hr
  refine ⟨k, g2, g3, g4, ?_, step_pO hr⟩
  rw [g8, Nat.pow_add]
  have h1 : (vT d i + 1) * 10 ^ k ≤ 10 ^ i * 10 ^ k := Nat.mul_le_mul_right _ hv
  rw [Nat.add_mul, Nat.one_mul] at h1
  omega
theorem pO_go (er : Int) (d : ByteArray) (ng : Bool) (rb : Bool) (rs : ByteArray) (hd : d.size ≤ 1000000) (ho : ∀ l, l < d.size → okd d l) (r : Nat) : ∀ i, d.size ≤ i + r → i ≤ d.size → vT d i < 10 ^ i → LoopTo Try.prog (lb 7 p_pO) (sh_pO er d ng (toL (vT d i)) i rb rs) (hp_pO er d ng (toL (vT d i)) i rb rs) (.exit 0) (sh_pO er d ng (toL (vT d d.size)) d.size rb rs) (hp_pO er d ng (toL (vT d d.size)) d.size rb rs) := by
  have fin : LoopTo Try.prog (lb 7 p_pO) (sh_pO er d ng (toL (vT d d.size)) d.size rb rs) (hp_pO er d ng (toL (vT d d.size)) d.size rb rs) (.exit 0) (sh_pO er d ng (toL (vT d d.size)) d.size rb rs) (hp_pO er d ng (toL (vT d d.size)) d.size rb rs) := by
    refine .last (step_pO ?_) (by intro h; cases h)
    rw [round_pO, dF (show ¬ ((d.size : Nat) : Int) < (d.size : Int) by omega)]
    rfl
  induction r with
  | zero =>
    intro i h1 h2 _
    rw [show i = d.size by omega]
    exact fin
  | succ r ih =>
    intro i h1 h2 hv
    by_cases hi : i < d.size
    · obtain ⟨k, k1, k2, k3, k4, k5⟩ := pO_step er d ng rb rs hd hi hv (fun l _ _ h => ho l h)
      exact .more k5 (ih (i + k) (by omega) k3 k4)
    · rw [show i = d.size by omega]
      exact fin
theorem loop_pO (er : Int) (d : ByteArray) (ng : Bool) (xs : List Int) (i : Int) (rb : Bool) (rs : ByteArray) (h : pre_pO er d ng xs i rb rs) : ∃ ρ : List Int × Int, LoopTo Try.prog (lb 7 p_pO) (sh_pO er d ng xs i rb rs) (hp_pO er d ng xs i rb rs) (.exit 0) (sh_pO er d ng ρ.1 ρ.2 rb rs) (hp_pO er d ng ρ.1 ρ.2 rb rs) ∧ post_pO er d ng xs i rb rs ρ := by
  obtain ⟨rfl, rfl, hd, ho⟩ := h
  have h := pO_go er d ng rb rs hd ho d.size 0 (by omega) (Nat.zero_le _) (show 0 < 1 by decide)
  rw [show toL (vT d 0) = [] from toL_zero] at h
  exact ⟨(toL (vT d d.size), (d.size : Int)), h, rfl⟩
def told_pO (κ : Int → ByteArray → Bool → List Int → Int → Bool → ByteArray → Bool) (φ : Int → ByteArray → Bool → List Int → Int → Bool → ByteArray → List Int × Int) (T : List AV) (H : Hp) : Option (Bool × Ex × List AV × Hp) :=
  match lget T 2, lget T 3, lget T 4, lget T 5, lget T 6, lget T 7, H with
  | .ptr 0 0, .val (.int .i64 er), .val (.string d), .val (.bool ng), .val (.slice none 0 0), .val (.int .i64 i), [.row (.cells [.val (.bool rb), .val (.string rs)]) 23 .live] => bif T.length == 78 then some (κ er d ng ([] : List Int) i rb rs, .exit 0, sh_pO er d ng ((φ er d ng ([] : List Int) i rb rs).1) ((φ er d ng ([] : List Int) i rb rs).2) rb rs, hp_pO er d ng ((φ er d ng ([] : List Int) i rb rs).1) ((φ er d ng ([] : List Int) i rb rs).2) rb rs) else none
  | _, _, _, _, _, _, _ => none
abbrev KT_pO : Type := Int → ByteArray → Bool → List Int → Int → Bool → ByteArray → Bool
abbrev FT_pO : Type := Int → ByteArray → Bool → List Int → Int → Bool → ByteArray → List Int × Int
def LL_pO (κ : KT_pO) (φ : FT_pO) (L : LTab) : LTab := addLn 0 7 p_pO [2, 3, 4, 5, 6, 7] (told_pO κ φ) L
def phi_pO (er : Int) (d : ByteArray) (ng : Bool) (xs : List Int) (i : Int) (rb : Bool) (rs : ByteArray) : List Int × Int := Classical.epsilon fun ρ => LoopTo Try.prog (lb 7 p_pO) (sh_pO er d ng xs i rb rs) (hp_pO er d ng xs i rb rs) (.exit 0) (sh_pO er d ng (ρ.1) (ρ.2) rb rs) (hp_pO er d ng (ρ.1) (ρ.2) rb rs) ∧ post_pO er d ng xs i rb rs ρ
theorem phi_pO_spec (er : Int) (d : ByteArray) (ng : Bool) (xs : List Int) (i : Int) (rb : Bool) (rs : ByteArray) (h : pre_pO er d ng xs i rb rs) : LoopTo Try.prog (lb 7 p_pO) (sh_pO er d ng xs i rb rs) (hp_pO er d ng xs i rb rs) (.exit 0) (sh_pO er d ng ((phi_pO er d ng xs i rb rs).1) ((phi_pO er d ng xs i rb rs).2) rb rs) (hp_pO er d ng ((phi_pO er d ng xs i rb rs).1) ((phi_pO er d ng xs i rb rs).2) rb rs) ∧ post_pO er d ng xs i rb rs (phi_pO er d ng xs i rb rs) := Classical.epsilon_spec (loop_pO er d ng xs i rb rs h)
def cond_pO (er : Int) (d : ByteArray) (ng : Bool) (xs : List Int) (i : Int) (rb : Bool) (rs : ByteArray) : Bool := @decide (pre_pO er d ng xs i rb rs) (Classical.propDecidable _)
theorem cond_pO_eq (er : Int) (d : ByteArray) (ng : Bool) (xs : List Int) (i : Int) (rb : Bool) (rs : ByteArray) (h : pre_pO er d ng xs i rb rs) : cond_pO er d ng xs i rb rs = true := @decide_eq_true _ (Classical.propDecidable _) h
theorem told_pO_ok (T : List AV) (H : Hp) (e : Ex) (T1 : List AV) (H1 : Hp) (h : told_pO cond_pO phi_pO T H = some (true, e, T1, H1)) : V.Ends Try.prog false 0 0 (.loop (lb 7 p_pO)) T H e T1 H1 := by
  unfold told_pO at h
  split at h
  · rename_i er d ng i rb rs h2 h3 h4 h5 h6 h7
    rw [Bool.cond_eq_ite] at h
    split at h
    · rename_i hlen
      rw [beq_iff_eq] at hlen
      simp only [Option.some.injEq, Prod.mk.injEq, Bool.and_eq_true, decide_eq_true_eq] at h
      obtain ⟨k1, rfl, rfl, rfl⟩ := h
      have kc := @of_decide_eq_true _ (Classical.propDecidable _) k1
      refine Ends.pre (phi_pO_spec er d ng ([] : List Int) i rb rs kc).1.ends (fun α B w D ys hr => slots_rel hlen (fun p hp y hy => ?_) hr)
      simp only [List.mem_cons, List.not_mem_nil, or_false] at hp
      rcases hp with rfl | rfl | rfl | rfl | rfl | rfl
      · rw [h2] at hy; exact hy
      · rw [h3] at hy; exact hy
      · rw [h4] at hy; exact hy
      · rw [h5] at hy; exact hy
      · rw [h6] at hy; exact nil_lst hy
      · rw [h7] at hy; exact hy
    · cases h
  · cases h
theorem LL_pO_ok {L : LTab} (h : LOk Try.prog L) : LOk Try.prog (LL_pO cond_pO phi_pO L) := h.add2n body_pO told_pO_ok
abbrev p_pX : List Bool := [false, true, false, true, true, true, true, true]
def sh_pX (er : Int) (d : ByteArray) (ng : Bool) (xs : List Int) (i : Int) (rb : Bool) (rs : ByteArray) : List AV := slots 78 [(2, .ptr 0 0), (3, .val (.int .i64 er)), (4, .val (.string d)), (5, .val (.bool ng)), (6, .lst false 47 xs.length (lim xs)), (7, .val (.int .i64 i))]
def hp_pX (er : Int) (d : ByteArray) (ng : Bool) (xs : List Int) (i : Int) (rb : Bool) (rs : ByteArray) : Hp := [.row (.cells [.val (.bool rb), .val (.string rs)]) 23 .live]
theorem body_pX : subC Try.prog 7 p_pX = some (.loop (lb 7 p_pX)) := by kernel_rfl
theorem code_pX : subC Try.prog 7 (false :: p_pX) = some (lb 7 p_pX) := by kernel_rfl
theorem round_pX (S : Sg) (κ : KT_iQ) (φ : FT_iQ) (er : Int) (d : ByteArray) (ng : Bool) (xs : List Int) (i : Int) (rb : Bool) (rs : ByteArray) : roundA Try.prog (EpB S κ φ) 7 [2, 3, 4, 5, 6, 7] (lb 7 p_pX) (false :: p_pX) (sh_pX er d ng xs i rb rs) (hp_pX er d ng xs i rb rs) =
    (bif decide (i < (↑d.size : Int)) then (bif okB xs.length (lim xs) && κ er d ng (rowOf xs.length (lim xs)) i (0 : Int) (1 : Int) (0 : Int) rb rs then some (.ret, slots 78 [(2, (.ptr 0 0)), (3, (.val (.int .i64 ((φ er d ng (rowOf xs.length (lim xs)) i (0 : Int) (1 : Int) (0 : Int) rb rs).fst)))), (4, (.val (.string d))), (5, (.val (.bool ng))), (6, (.lst false 47 ((rowOf xs.length (lim xs)).length) (lim (rowOf xs.length (lim xs))))), (7, (.val (.int .i64 ((φ er d ng (rowOf xs.length (lim xs)) i (0 : Int) (1 : Int) (0 : Int) rb rs).snd.fst))))], [(.row (.cells [(.val (.bool ((φ er d ng (rowOf xs.length (lim xs)) i (0 : Int) (1 : Int) (0 : Int) rb rs).snd.snd.snd.snd.snd.fst))), (.val (.string ((φ er d ng (rowOf xs.length (lim xs)) i (0 : Int) (1 : Int) (0 : Int) rb rs).snd.snd.snd.snd.snd.snd)))]) 23 .live)]) else none) else some ((.exit 0), slots 78 [(2, (.ptr 0 0)), (3, (.val (.int .i64 er))), (4, (.val (.string d))), (5, (.val (.bool ng))), (6, (.lst false 47 xs.length (lim xs))), (7, (.val (.int .i64 i)))], [(.row (.cells [(.val (.bool rb)), (.val (.string rs))]) 23 .live)])) := by kernel_rfl
theorem step_pX {er : Int} {d : ByteArray} {ng : Bool} {xs : List Int} {i : Int} {rb : Bool} {rs : ByteArray} {e : Ex} {T : List AV} {H : Hp} (h : roundA Try.prog (EpB sg0 cond_iQ phi_iQ) 7 [2, 3, 4, 5, 6, 7] (lb 7 p_pX) (false :: p_pX) (sh_pX er d ng xs i rb rs) (hp_pX er d ng xs i rb rs) = some (e, T, H)) : V.Ends Try.prog false 0 0 (lb 7 p_pX) (sh_pX er d ng xs i rb rs) (hp_pX er d ng xs i rb rs) e T H :=
  round_ends ((meets_none _).add eMuladd) (LL_iQ_ok LOk.none).ok mixed code_pX h
def pre_pX (er : Int) (d : ByteArray) (ng : Bool) (xs : List Int) (i : Int) (rb : Bool) (rs : ByteArray) : Prop := xs = [] ∧ i = 0 ∧ d.size ≤ 1000000 ∧ ∃ m, m < d.size ∧ (∀ l, l < m → okd d l) ∧ ¬ okd d m
def post_pX (er : Int) (d : ByteArray) (ng : Bool) (xs : List Int) (i : Int) (rb : Bool) (rs : ByteArray) (ρ : Int × List Int × Int × Bool × ByteArray) : Prop := ρ.1 = 3 ∧ ρ.2.2.2.1 = false ∧ ρ.2.2.2.2 = ByteArray.mk #[]
theorem pX_go (er : Int) (d : ByteArray) (ng : Bool) (rb : Bool) (rs : ByteArray) (hd : d.size ≤ 1000000) (m : Nat) (hm : m < d.size) (ho : ∀ l, l < m → okd d l) (hb : ¬ okd d m) (r : Nat) : ∀ i, m ≤ i + r → i ≤ m → vT d i < 10 ^ i → ∃ ρ : Int × List Int × Int × Bool × ByteArray, LoopTo Try.prog (lb 7 p_pO) (sh_pO er d ng (toL (vT d i)) i rb rs) (hp_pO er d ng (toL (vT d i)) i rb rs) .ret (sh_pO ρ.1 d ng ρ.2.1 ρ.2.2.1 ρ.2.2.2.1 ρ.2.2.2.2) (hp_pO ρ.1 d ng ρ.2.1 ρ.2.2.1 ρ.2.2.2.1 ρ.2.2.2.2) ∧ ρ.1 = 3 ∧ ρ.2.2.2.1 = false ∧ ρ.2.2.2.2 = ByteArray.mk #[] := by
  have fin : ∀ i : Nat, i ≤ m → m < i + 9 → vT d i < 10 ^ i → ∃ ρ : Int × List Int × Int × Bool × ByteArray, LoopTo Try.prog (lb 7 p_pO) (sh_pO er d ng (toL (vT d i)) i rb rs) (hp_pO er d ng (toL (vT d i)) i rb rs) .ret (sh_pO ρ.1 d ng ρ.2.1 ρ.2.2.1 ρ.2.2.2.1 ρ.2.2.2.2) (hp_pO ρ.1 d ng ρ.2.1 ρ.2.2.1 ρ.2.2.2.1 ρ.2.2.2.2) ∧ ρ.1 = 3 ∧ ρ.2.2.2.1 = false ∧ ρ.2.2.2.2 = ByteArray.mk #[] := by
    intro i h1 h2 hv
    have hq : pre_iQ er d ng (toL (vT d i)) i 0 1 0 rb rs := ⟨rfl, rfl, rfl, i, m - i, rfl, by omega, by omega, hd, fun l h3 h4 => ho l (by omega), by rw [show i + (m - i) = m by omega]; exact hb⟩
    have hs := (phi_iQ_spec _ _ _ _ _ _ _ _ _ _ hq).2
    have hr := round_pX sg0 cond_iQ phi_iQ er d ng (toL (vT d i)) i rb rs
    simp only [rowOf_lim'] at hr
    rw [cond_iQ_eq _ _ _ _ _ _ _ _ _ _ hq, show okB (toL (vT d i)).length (lim (toL (vT d i))) = true from okB_enc _, dT (show (i : Int) < (d.size : Int) by omega)] at hr
    generalize phi_iQ er d ng (toL (vT d i)) i 0 1 0 rb rs = ρ at *
    exact ⟨(ρ.1, toL (vT d i), ρ.2.1, ρ.2.2.2.2.2.1, ρ.2.2.2.2.2.2), .last (step_pX hr) (by intro h; cases h), hs.1, hs.2.1, hs.2.2⟩
  induction r with
  | zero =>
    intro i h1 h2 hv
    exact fin i h2 (by omega) hv
  | succ r ih =>
    intro i h1 h2 hv
    by_cases hi : m < i + 9
    · exact fin i h2 hi hv
    · obtain ⟨k, k1, k2, k3, k4, k5⟩ := pO_step er d ng rb rs hd (show i < d.size by omega) hv (fun l h3 h4 _ => ho l (by omega))
      obtain ⟨ρ, g1, g2⟩ := ih (i + k) (by omega) (by omega) k4
      exact ⟨ρ, .more k5 g1, g2⟩
theorem loop_pX (er : Int) (d : ByteArray) (ng : Bool) (xs : List Int) (i : Int) (rb : Bool) (rs : ByteArray) (h : pre_pX er d ng xs i rb rs) : ∃ ρ : Int × List Int × Int × Bool × ByteArray, LoopTo Try.prog (lb 7 p_pX) (sh_pX er d ng xs i rb rs) (hp_pX er d ng xs i rb rs) .ret (sh_pX ρ.1 d ng ρ.2.1 ρ.2.2.1 ρ.2.2.2.1 ρ.2.2.2.2) (hp_pX ρ.1 d ng ρ.2.1 ρ.2.2.1 ρ.2.2.2.1 ρ.2.2.2.2) ∧ post_pX er d ng xs i rb rs ρ := by
  obtain ⟨rfl, rfl, hd, m, hm, ho, hb⟩ := h
  have h := pX_go er d ng rb rs hd m hm ho hb m 0 (by omega) (Nat.zero_le _) (show 0 < 1 by decide)
  rw [show toL (vT d 0) = [] from toL_zero] at h
  exact h
def told_pX (κ : Int → ByteArray → Bool → List Int → Int → Bool → ByteArray → Bool) (φ : Int → ByteArray → Bool → List Int → Int → Bool → ByteArray → Int × List Int × Int × Bool × ByteArray) (T : List AV) (H : Hp) : Option (Bool × Ex × List AV × Hp) :=
  match lget T 2, lget T 3, lget T 4, lget T 5, lget T 6, lget T 7, H with
  | .ptr 0 0, .val (.int .i64 er), .val (.string d), .val (.bool ng), .val (.slice none 0 0), .val (.int .i64 i), [.row (.cells [.val (.bool rb), .val (.string rs)]) 23 .live] => bif T.length == 78 then some (κ er d ng ([] : List Int) i rb rs, .ret, sh_pX ((φ er d ng ([] : List Int) i rb rs).1) d ng ((φ er d ng ([] : List Int) i rb rs).2.1) ((φ er d ng ([] : List Int) i rb rs).2.2.1) ((φ er d ng ([] : List Int) i rb rs).2.2.2.1) ((φ er d ng ([] : List Int) i rb rs).2.2.2.2), hp_pX ((φ er d ng ([] : List Int) i rb rs).1) d ng ((φ er d ng ([] : List Int) i rb rs).2.1) ((φ er d ng ([] : List Int) i rb rs).2.2.1) ((φ er d ng ([] : List Int) i rb rs).2.2.2.1) ((φ er d ng ([] : List Int) i rb rs).2.2.2.2)) else none
  | _, _, _, _, _, _, _ => none
abbrev KT_pX : Type := Int → ByteArray → Bool → List Int → Int → Bool → ByteArray → Bool
abbrev FT_pX : Type := Int → ByteArray → Bool → List Int → Int → Bool → ByteArray → Int × List Int × Int × Bool × ByteArray
def LL_pX (κ : KT_pX) (φ : FT_pX) (L : LTab) : LTab := addLn 0 7 p_pX [2, 3, 4, 5, 6, 7] (told_pX κ φ) L
def phi_pX (er : Int) (d : ByteArray) (ng : Bool) (xs : List Int) (i : Int) (rb : Bool) (rs : ByteArray) : Int × List Int × Int × Bool × ByteArray := Classical.epsilon fun ρ => LoopTo Try.prog (lb 7 p_pX) (sh_pX er d ng xs i rb rs) (hp_pX er d ng xs i rb rs) (.ret) (sh_pX (ρ.1) d ng (ρ.2.1) (ρ.2.2.1) (ρ.2.2.2.1) (ρ.2.2.2.2)) (hp_pX (ρ.1) d ng (ρ.2.1) (ρ.2.2.1) (ρ.2.2.2.1) (ρ.2.2.2.2)) ∧ post_pX er d ng xs i rb rs ρ
theorem phi_pX_spec (er : Int) (d : ByteArray) (ng : Bool) (xs : List Int) (i : Int) (rb : Bool) (rs : ByteArray) (h : pre_pX er d ng xs i rb rs) : LoopTo Try.prog (lb 7 p_pX) (sh_pX er d ng xs i rb rs) (hp_pX er d ng xs i rb rs) (.ret) (sh_pX ((phi_pX er d ng xs i rb rs).1) d ng ((phi_pX er d ng xs i rb rs).2.1) ((phi_pX er d ng xs i rb rs).2.2.1) ((phi_pX er d ng xs i rb rs).2.2.2.1) ((phi_pX er d ng xs i rb rs).2.2.2.2)) (hp_pX ((phi_pX er d ng xs i rb rs).1) d ng ((phi_pX er d ng xs i rb rs).2.1) ((phi_pX er d ng xs i rb rs).2.2.1) ((phi_pX er d ng xs i rb rs).2.2.2.1) ((phi_pX er d ng xs i rb rs).2.2.2.2)) ∧ post_pX er d ng xs i rb rs (phi_pX er d ng xs i rb rs) := Classical.epsilon_spec (loop_pX er d ng xs i rb rs h)
def cond_pX (er : Int) (d : ByteArray) (ng : Bool) (xs : List Int) (i : Int) (rb : Bool) (rs : ByteArray) : Bool := @decide (pre_pX er d ng xs i rb rs) (Classical.propDecidable _)
theorem cond_pX_eq (er : Int) (d : ByteArray) (ng : Bool) (xs : List Int) (i : Int) (rb : Bool) (rs : ByteArray) (h : pre_pX er d ng xs i rb rs) : cond_pX er d ng xs i rb rs = true := @decide_eq_true _ (Classical.propDecidable _) h
theorem told_pX_ok (T : List AV) (H : Hp) (e : Ex) (T1 : List AV) (H1 : Hp) (h : told_pX cond_pX phi_pX T H = some (true, e, T1, H1)) : V.Ends Try.prog false 0 0 (.loop (lb 7 p_pX)) T H e T1 H1 := by
  unfold told_pX at h
  split at h
  · rename_i er d ng i rb rs h2 h3 h4 h5 h6 h7
    rw [Bool.cond_eq_ite] at h
    split at h
    · rename_i hlen
      rw [beq_iff_eq] at hlen
      simp only [Option.some.injEq, Prod.mk.injEq, Bool.and_eq_true, decide_eq_true_eq] at h
      obtain ⟨k1, rfl, rfl, rfl⟩ := h
      have kc := @of_decide_eq_true _ (Classical.propDecidable _) k1
      refine Ends.pre (phi_pX_spec er d ng ([] : List Int) i rb rs kc).1.ends (fun α B w D ys hr => slots_rel hlen (fun p hp y hy => ?_) hr)
      simp only [List.mem_cons, List.not_mem_nil, or_false] at hp
      rcases hp with rfl | rfl | rfl | rfl | rfl | rfl
      · rw [h2] at hy; exact hy
      · rw [h3] at hy; exact hy
      · rw [h4] at hy; exact hy
      · rw [h5] at hy; exact hy
      · rw [h6] at hy; exact nil_lst hy
      · rw [h7] at hy; exact hy
    · cases h
  · cases h
theorem LL_pX_ok {L : LTab} (h : LOk Try.prog L) : LOk Try.prog (LL_pX cond_pX phi_pX L) := h.add2n body_pX told_pX_ok
end
end Go.Proofs.Ytndpfegbbpoopaa.L
