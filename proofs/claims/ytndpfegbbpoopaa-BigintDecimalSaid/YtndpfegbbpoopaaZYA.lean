import Derived.Test.YtndpfegbbpoopaaZL
set_option linter.unusedVariables false
set_option linter.unusedSimpArgs false
namespace Go.Proofs.Ytndpfegbbpoopaa.L
open Go Go.V Go.RowKit Go.Proofs.Ytndpfegbbpoopaa.Sp Go.Proofs.Ytndpfegbbpoopaa.F Go.Proofs.YtndpfegbbpoopaaW.PrintWords
open Go.Proofs (Try.prog)
noncomputable section
def E000 : Env := ⟨noC, Kall, noL⟩
theorem div32_call (x y z : Int) : callA Try.prog E000 10 10 51 [.val (.int .u32 x), .val (.int .u32 y), .val (.int .u32 z)] =
    (bif !decide (z = (0 : Int)) then (bif decide (z ≤ x) then none else (bif inR IntKind.u64 x then (bif inR IntKind.u64 y then (bif inR IntKind.u64 z then (bif decide (z = (0 : Int)) then none else (bif inR IntKind.u64 z then (bif decide (z = (0 : Int)) then none else some (.tup [(.val (.int .u32 (IntKind.u32.wrap (IntKind.u64.wrap ((bitI BinOp.or IntKind.u64 (IntKind.u64.wrap (x * (4294967296 : Int))) y).tdiv z))))), (.val (.int .u32 (IntKind.u32.wrap ((bitI BinOp.or IntKind.u64 (IntKind.u64.wrap (x * (4294967296 : Int))) y).tmod z))))])) else none)) else none) else none) else none)) else (bif inR IntKind.u64 x then (bif inR IntKind.u64 y then (bif inR IntKind.u64 z then (bif decide (z = (0 : Int)) then none else (bif inR IntKind.u64 z then (bif decide (z = (0 : Int)) then none else some (.tup [(.val (.int .u32 (IntKind.u32.wrap (IntKind.u64.wrap ((bitI BinOp.or IntKind.u64 (IntKind.u64.wrap (x * (4294967296 : Int))) y).tdiv z))))), (.val (.int .u32 (IntKind.u32.wrap ((bitI BinOp.or IntKind.u64 (IntKind.u64.wrap (x * (4294967296 : Int))) y).tmod z))))])) else none)) else none) else none) else none)) := by kernel_rfl
end
end Go.Proofs.Ytndpfegbbpoopaa.L
namespace Go.Proofs.Ytndpfegbbpoopaa.L
open Go Go.V Go.RowKit Go.Proofs.Ytndpfegbbpoopaa.Sp Go.Proofs.Ytndpfegbbpoopaa.F Go.Proofs.YtndpfegbbpoopaaW.PrintWords
open Go.Proofs (Try.prog)
noncomputable section
def tDiv32 (args : List AV) : Option (Bool × AV) := match args with
  | [.val (.int .u32 x), .val (.int .u32 y), .val (.int .u32 z)] => some (inU x && inU y && inU z && decide (x < z), .tup [.val (.int .u32 ((x * 4294967296 + y) / z)), .val (.int .u32 ((x * 4294967296 + y) % z))])
  | _ => none
theorem join64 (h l : Nat) (hh : h < 4294967296) (hl : l < 4294967296) : bitI .or .u64 (IntKind.u64.wrap ((h : Int) * 4294967296)) (l : Int) = ((h * 4294967296 + l : Nat) : Int) := by
  have e := or64 h l hh hl
  rw [u64n (a := l) (by omega)] at e
  exact e
theorem eDiv32 : Entry Try.prog 51 tDiv32 := by
  refine entry_of (E := E000) (u := 10) (d := 10) (meets_none _) loops_none mixed (by kernel_rfl) (fun args r h => ?_)
  unfold tDiv32 at h
  split at h
  · simp only [Option.some.injEq, Prod.mk.injEq, Bool.and_eq_true, decide_eq_true_eq] at h
    obtain ⟨⟨⟨⟨h1, h2⟩, h3⟩, h4⟩, rfl⟩ := h
    obtain ⟨x, hx, rfl⟩ := inU_out h1
    obtain ⟨y, hy, rfl⟩ := inU_out h2
    obtain ⟨z, hz, rfl⟩ := inU_out h3
    have hq : (x * 4294967296 + y) / z < 4294967296 := by
      rw [Nat.div_lt_iff_lt_mul (by omega)]
      have : (x + 1) * 4294967296 ≤ z * 4294967296 := Nat.mul_le_mul_right _ (by omega)
      omega
    have hr : (x * 4294967296 + y) % z < z := Nat.mod_lt _ (by omega)
    rw [div32_call, dF (show ¬ (z : Int) = 0 by omega), dF (show ¬ (z : Int) ≤ x by omega), u64T (show 0 ≤ (x : Int) ∧ (x : Int) ≤ 18446744073709551615 by omega), u64T (show 0 ≤ (y : Int) ∧ (y : Int) ≤ 18446744073709551615 by omega), u64T (show 0 ≤ (z : Int) ∧ (z : Int) ≤ 18446744073709551615 by omega), join64 x y hx hy]
    rw [show Int.tdiv ((x * 4294967296 + y : Nat) : Int) (z : Int) = (((x * 4294967296 + y) / z : Nat) : Int) from rfl, show Int.tmod ((x * 4294967296 + y : Nat) : Int) (z : Int) = (((x * 4294967296 + y) % z : Nat) : Int) from rfl, u64n (by omega), u32w, u32w, Nat.mod_eq_of_lt hq, Nat.mod_eq_of_lt (show (x * 4294967296 + y) % z < 4294967296 by omega)]
    rfl
  · cases h
def ED32 : Env := ⟨addC 51 tDiv32 noC, Kall, noL⟩
theorem ED32_ok : Meets Try.prog ED32.C := (meets_none _).add eDiv32
abbrev p_short : List Bool := [false, true, false, true, true, true]
def sh_short (xs : List Int) (y : Int) (zs : List Int) (r : Int) (i : Int) : List AV := slots 35 [(0, .lst false 47 xs.length (lim xs)), (1, .val (.int .u32 y)), (6, .sl false 47 0 0 zs.length), (7, .val (.int .u32 r)), (8, .val (.int .i64 i))]
def hp_short (xs : List Int) (y : Int) (zs : List Int) (r : Int) (i : Int) : Hp := [.row (.ints .u32 zs) 47 .live]
theorem body_short : subC Try.prog 43 p_short = some (.loop (lb 43 p_short)) := by kernel_rfl
theorem code_short : subC Try.prog 43 (false :: p_short) = some (lb 43 p_short) := by kernel_rfl
theorem round_short  (xs : List Int) (y : Int) (zs : List Int) (r : Int) (i : Int) : roundA Try.prog ED32 43 [0, 1, 6, 7, 8] (lb 43 p_short) (false :: p_short) (sh_short xs y zs r i) (hp_short xs y zs r i) =
    (bif decide ((0 : Int) ≤ i) then (bif decide ((0 : Int) ≤ i) && decide (i < (↑xs.length : Int)) then (bif inU r && inU (xs.getD i.toNat (0 : Int)) && inU y && decide (r < y) then (bif decide ((0 : Int) ≤ i) && decide (i < (↑zs.length : Int)) then (bif decide ((0 : Nat) + i.toNat * (1 : Nat) < zs.length) then (bif inR IntKind.i64 (i - (1 : Int)) then some (.normal, slots 35 [(0, (.lst false 47 xs.length (lim xs))), (1, (.val (.int .u32 y))), (6, (.sl false 47 0 0 zs.length)), (7, (.val (.int .u32 ((r * (4294967296 : Int) + xs.getD i.toNat (0 : Int)) % y)))), (8, (.val (.int .i64 (i - (1 : Int)))))], [(.row (.ints .u32 (zs.set ((0 : Nat) + i.toNat * (1 : Nat)) ((r * (4294967296 : Int) + xs.getD i.toNat (0 : Int)) / y))) 47 .live)]) else none) else none) else none) else none) else none) else some ((.exit 0), slots 35 [(0, (.lst false 47 xs.length (lim xs))), (1, (.val (.int .u32 y))), (6, (.sl false 47 0 0 zs.length)), (7, (.val (.int .u32 r))), (8, (.val (.int .i64 i)))], [(.row (.ints .u32 zs) 47 .live)])) := by kernel_rfl
theorem step_short {xs : List Int} {y : Int} {zs : List Int} {r : Int} {i : Int} {e : Ex} {T : List AV} {H : Hp} (h : roundA Try.prog ED32 43 [0, 1, 6, 7, 8] (lb 43 p_short) (false :: p_short) (sh_short xs y zs r i) (hp_short xs y zs r i) = some (e, T, H)) : V.Ends Try.prog false 0 0 (lb 43 p_short) (sh_short xs y zs r i) (hp_short xs y zs r i) e T H :=
  round_ends ED32_ok loops_none mixed code_short h
def pre_short (xs : List Int) (y : Int) (zs : List Int) (r i : Int) : Prop := okL xs ∧ okL zs ∧ zs.length = xs.length ∧ xs.length ≤ 17592186044416 ∧ inU y = true ∧ 0 < y ∧ r = 0 ∧ i = (xs.length : Int) - 1
def post_short (xs : List Int) (y : Int) (zs : List Int) (r i : Int) (q : List Int × Int × Int) : Prop := okL q.1 ∧ q.1.length = xs.length ∧ vL q.1 = vL xs / y.toNat ∧ q.2.1 = ((vL xs % y.toNat : Nat) : Int)
theorem short_go (xs : List Int) (y : Nat) (hl : okL xs) (hb : xs.length ≤ 17592186044416) (hy0 : 0 < y) (hy : y < 4294967296) (d : Nat) : ∀ (r : Nat) (out : List Int), d ≤ xs.length → okL out → out.length = xs.length → r < y → Aside0 (vL (out.drop d) * y + r = vL (xs.drop d)) →
    ∃ q : List Int × Int × Int, LoopTo Try.prog (lb 43 p_short) (sh_short xs y out r ((d : Int) - 1)) (hp_short xs y out r ((d : Int) - 1)) (.exit 0) (sh_short xs y q.1 q.2.1 q.2.2) (hp_short xs y q.1 q.2.1 q.2.2) ∧ okL q.1 ∧ q.1.length = xs.length ∧ vL q.1 = vL xs / y ∧ q.2.1 = ((vL xs % y : Nat) : Int) := by
  induction d with
  | zero =>
    intro r out hd hok hlen hr hv
    refine ⟨(out, (r : Int), ((0 : Nat) : Int) - 1), .last (step_short ?_) (by intro h; cases h), hok, hlen, ?_, ?_⟩
    · rw [round_short]; rfl
    · have hv := hv.out
      rw [List.drop_zero, List.drop_zero] at hv
      show vL out = _
      rw [← hv, Nat.mul_comm, Nat.mul_add_div hy0, Nat.div_eq_of_lt hr]; simp
    · have hv := hv.out
      rw [List.drop_zero, List.drop_zero] at hv
      show (r : Int) = _
      rw [← hv, Nat.mul_comm, Nat.mul_add_mod, Nat.mod_eq_of_lt hr]
  | succ d ih =>
    intro r out hd hok hlen hr HV
    have hdl : d < xs.length := by omega
    have hdo : d < out.length := by omega
    obtain ⟨a, ha, hea, hra⟩ := getD_limb hl d hdl
    have hq : (r * 4294967296 + a) / y < 4294967296 := by
      rw [Nat.div_lt_iff_lt_mul (by omega)]
      have : (r + 1) * 4294967296 ≤ y * 4294967296 := Nat.mul_le_mul_right _ (by omega)
      omega
    have hm : (r * 4294967296 + a) % y < y := Nat.mod_lt _ hy0
    obtain ⟨q, h1, h2⟩ := ih ((r * 4294967296 + a) % y) (out.set d (((r * 4294967296 + a) / y : Nat) : Int)) (by omega) (okL_set hok _ _ (Int.natCast_nonneg _) (Int.ofNat_lt.2 hq)) (by rw [List.length_set]; exact hlen) hm (by
      constructor
      rw [List.drop_eq_getElem_cons (l := out.set d _) (by simpa using hdo), List.getElem_set_self, List.drop_set_of_lt (by omega), List.drop_eq_getElem_cons hdl, hea, vL_cons, vL_cons, Int.toNat_natCast, Int.toNat_natCast, ← HV.out]
      have h1 := Nat.div_add_mod (r * 4294967296 + a) y
      generalize (r * 4294967296 + a) / y = q at *
      generalize (r * 4294967296 + a) % y = m at *
      grind)
    refine ⟨q, .more (step_short ?_) h1, h2⟩
    clear h1 h2 ih HV
    have hr2 := round_short xs y out r (d : Int)
    rw [Int.toNat_natCast, hra, inU_in ha, inU_in hy, inU_in (show r < 4294967296 by omega), Nat.zero_add, Nat.mul_one, dT (show (0 : Int) ≤ (d : Int) by omega), dT (show (d : Int) < (xs.length : Int) by omega), dT (show (d : Int) < (out.length : Int) by omega), dT hdo, dT (show (r : Int) < y by omega), i64T (show -9223372036854775808 ≤ (d : Int) - 1 ∧ (d : Int) - 1 ≤ 9223372036854775807 by omega)] at hr2
    rw [show ((d + 1 : Nat) : Int) - 1 = (d : Int) by omega, hr2]
    unfold sh_short hp_short
    rw [List.length_set]
    rfl
theorem loop_short (xs : List Int) (y : Int) (zs : List Int) (r i : Int) (h : pre_short xs y zs r i) : ∃ q : List Int × Int × Int, LoopTo Try.prog (lb 43 p_short) (sh_short xs y zs r i) (hp_short xs y zs r i) (.exit 0) (sh_short xs y q.1 q.2.1 q.2.2) (hp_short xs y q.1 q.2.1 q.2.2) ∧ post_short xs y zs r i q := by
  obtain ⟨h1, h2, h3, h4, h5, h6, rfl, rfl⟩ := h
  obtain ⟨y, hy, rfl⟩ := inU_out h5
  unfold post_short
  rw [Int.toNat_natCast]
  exact short_go xs y h1 h4 (by omega) hy xs.length 0 zs (Nat.le_refl _) h2 h3 (by omega) ⟨by rw [List.drop_of_length_le (by omega), List.drop_of_length_le (Nat.le_refl _)]; simp [vL_nil]⟩
def told_short (κ : List Int → Int → List Int → Int → Int → Bool) (φ : List Int → Int → List Int → Int → Int → List Int × Int × Int) (T : List AV) (H : Hp) : Option (Bool × Ex × List AV × Hp) :=
  match lget T 0, lget T 1, lget T 6, lget T 7, lget T 8, H with
  | .lst false 47 m_xs f_xs, .val (.int .u32 y), .sl false 47 0 0 m_zs, .val (.int .u32 r), .val (.int .i64 i), [.row (.ints .u32 zs) 47 .live] => bif T.length == 35 then some (okB m_xs f_xs && decide (m_zs = zs.length) && κ (rowOf m_xs f_xs) y zs r i, .exit 0, sh_short (rowOf m_xs f_xs) y ((φ (rowOf m_xs f_xs) y zs r i).1) ((φ (rowOf m_xs f_xs) y zs r i).2.1) ((φ (rowOf m_xs f_xs) y zs r i).2.2), hp_short (rowOf m_xs f_xs) y ((φ (rowOf m_xs f_xs) y zs r i).1) ((φ (rowOf m_xs f_xs) y zs r i).2.1) ((φ (rowOf m_xs f_xs) y zs r i).2.2)) else none
  | _, _, _, _, _, _ => none
abbrev KT_short : Type := List Int → Int → List Int → Int → Int → Bool
abbrev FT_short : Type := List Int → Int → List Int → Int → Int → List Int × Int × Int
def LL_short (κ : KT_short) (φ : FT_short) (L : LTab) : LTab := addLn 0 43 p_short [0, 1, 6, 7, 8] (told_short κ φ) L
def phi_short (xs : List Int) (y : Int) (zs : List Int) (r : Int) (i : Int) : List Int × Int × Int := Classical.epsilon fun ρ => LoopTo Try.prog (lb 43 p_short) (sh_short xs y zs r i) (hp_short xs y zs r i) (.exit 0) (sh_short xs y (ρ.1) (ρ.2.1) (ρ.2.2)) (hp_short xs y (ρ.1) (ρ.2.1) (ρ.2.2)) ∧ post_short xs y zs r i ρ
theorem phi_short_spec (xs : List Int) (y : Int) (zs : List Int) (r : Int) (i : Int) (h : pre_short xs y zs r i) : LoopTo Try.prog (lb 43 p_short) (sh_short xs y zs r i) (hp_short xs y zs r i) (.exit 0) (sh_short xs y ((phi_short xs y zs r i).1) ((phi_short xs y zs r i).2.1) ((phi_short xs y zs r i).2.2)) (hp_short xs y ((phi_short xs y zs r i).1) ((phi_short xs y zs r i).2.1) ((phi_short xs y zs r i).2.2)) ∧ post_short xs y zs r i (phi_short xs y zs r i) := Classical.epsilon_spec (loop_short xs y zs r i h)
def cond_short (xs : List Int) (y : Int) (zs : List Int) (r : Int) (i : Int) : Bool := @decide (pre_short xs y zs r i) (Classical.propDecidable _)
theorem cond_short_eq (xs : List Int) (y : Int) (zs : List Int) (r : Int) (i : Int) (h : pre_short xs y zs r i) : cond_short xs y zs r i = true := @decide_eq_true _ (Classical.propDecidable _) h
theorem told_short_ok (T : List AV) (H : Hp) (e : Ex) (T1 : List AV) (H1 : Hp) (h : told_short cond_short phi_short T H = some (true, e, T1, H1)) : V.Ends Try.prog false 0 0 (.loop (lb 43 p_short)) T H e T1 H1 := by
  unfold told_short at h
  split at h
  · rename_i m_xs f_xs y m_zs r i zs h0 h1 h6 h7 h8
    rw [Bool.cond_eq_ite] at h
    split at h
    · rename_i hlen
      rw [beq_iff_eq] at hlen
      simp only [Option.some.injEq, Prod.mk.injEq, Bool.and_eq_true, decide_eq_true_eq] at h
      obtain ⟨⟨⟨k1, k2⟩, k3⟩, rfl, rfl, rfl⟩ := h
      have kc := @of_decide_eq_true _ (Classical.propDecidable _) k3
      refine Ends.pre (phi_short_spec (rowOf m_xs f_xs) y zs r i kc).1.ends (fun α B w D ys hr => slots_rel hlen (fun p hp y hy => ?_) hr)
      simp only [List.mem_cons, List.not_mem_nil, or_false] at hp
      rcases hp with rfl | rfl | rfl | rfl | rfl
      · rw [h0] at hy; rw [rowOf_len]; exact row_norm cells47 k1 hy
      · rw [h1] at hy; exact hy
      · rw [h6] at hy; rw [← k2]; exact hy
      · rw [h7] at hy; exact hy
      · rw [h8] at hy; exact hy
    · cases h
  · cases h
theorem LL_short_ok {L : LTab} (h : LOk Try.prog L) : LOk Try.prog (LL_short cond_short phi_short L) := h.add2n body_short told_short_ok
def ESh (S : Sg) (κ : KT_short) (φ : FT_short) : Env := ⟨CT S, Kall, LL_short κ φ noL⟩
theorem short_call (S : Sg) (κ : KT_short) (φ : FT_short) (xs : List Int) (y : Int) : letI q_2 := (List.replicate (↑xs.length : Int).toNat (0 : Int)); letI q_1 := (φ (rowOf xs.length (lim xs)) y q_2 (0 : Int) ((↑xs.length : Int) - (1 : Int)));
    (callA Try.prog (ESh S κ φ) 10 10 43 [.lst false 47 xs.length (lim xs), .val (.int .u32 y)] = (bif decide ((↑xs.length : Int) ≤ (↑xs.length : Int)) && decide ((4 : Int) * (↑xs.length : Int) ≤ (281474976710656 : Int)) && decide ((↑xs.length : Int) ≤ (9223372036854775807 : Int)) then (bif inR IntKind.i64 ((↑xs.length : Int) - (1 : Int)) then (bif okB xs.length (lim xs) && decide ((↑xs.length : Int).toNat = q_2.length) && κ (rowOf xs.length (lim xs)) y q_2 (0 : Int) ((↑xs.length : Int) - (1 : Int)) then (bif decide ((0 : Nat) + q_1.fst.length * (1 : Nat) ≤ q_1.fst.length) then (bif S.okr q_1.fst.length (lim q_1.fst) then some (.tup [(.lst false 47 (S.len (S.num q_1.fst.length (lim q_1.fst))) (S.row (S.num q_1.fst.length (lim q_1.fst)))), (.val (.int .u32 (q_1.snd.fst)))]) else none) else none) else none) else none) else none)) := by kernel_rfl
def tShort (S : Sg) (args : List AV) : Option (Bool × AV) := match args with | [.lst _ 47 m f, .val (.int .u32 y)] => some (S.okr m f && inU y && decide (0 < y), .tup [S.lmb (S.num m f / y.toNat), .val (.int .u32 ((S.num m f % y.toNat : Nat) : Int))]) | _ => none
theorem eShort : Entry Try.prog 43 (tShort sg0) := by
  refine entry_to (E := ESh sg0 cond_short phi_short) (u := 10) (d := 10) CT_ok (LL_short_ok LOk.none).ok (by kernel_rfl) (fun args r h => ?_)
  unfold tShort at h
  split at h
  · rename_i fl m f y
    simp only [Option.some.injEq, Prod.mk.injEq, Bool.and_eq_true, decide_eq_true_eq] at h
    obtain ⟨⟨⟨h1, h2⟩, h3⟩, rfl⟩ := h
    obtain ⟨a1, a2, a3, a4⟩ := okr_out h1
    have hp : pre_short (rowOf m f) y (List.replicate (rowOf m f).length 0) 0 ((rowOf m f).length - 1) := ⟨a2, okL_replicate _, by simp, a3, h2, h3, rfl, rfl⟩
    obtain ⟨_, c1, c2, c3, c4⟩ := phi_short_spec _ _ _ _ _ hp
    have hcall := short_call sg0 cond_short phi_short (rowOf m f) y
    simp only [rowOf_lim', Nat.mul_one, Nat.zero_add, Int.toNat_natCast, List.length_replicate, eq_self, decide_true] at hcall
    rw [cond_short_eq _ _ _ _ _ hp] at hcall
    generalize phi_short (rowOf m f) y (List.replicate (rowOf m f).length 0) 0 ((rowOf m f).length - 1) = q at *
    rw [okB_lim a2, dT (show ((rowOf m f).length : Int) ≤ ((rowOf m f).length : Int) by omega), dT (show (4 : Int) * ((rowOf m f).length : Int) ≤ 281474976710656 by omega), dT (show ((rowOf m f).length : Int) ≤ 9223372036854775807 by omega), i64T (show -9223372036854775808 ≤ ((rowOf m f).length : Int) - 1 ∧ ((rowOf m f).length : Int) - 1 ≤ 9223372036854775807 by omega), dT (show q.1.length ≤ q.1.length by omega), okr_lim c1 (by omega), num_lim, c3, c4] at hcall
    refine ⟨_, _, hcall, fun B w ys hr => ?_, fun B w y hr => by rw [a4]; exact hr⟩
    obtain ⟨y, zs, rfl, q1, q2⟩ := hr
    exact ⟨y, _, rfl, norm_row a1 q1, q2⟩
  · cases h
end
end Go.Proofs.Ytndpfegbbpoopaa.L
namespace Go.Proofs.Ytndpfegbbpoopaa.L
open Go Go.V Go.RowKit Go.Proofs.Ytndpfegbbpoopaa.Sp
open Go.Proofs (Try.prog)
noncomputable section
structure Xg where
  sv : Int → Int
  sb : Int → Bool
  dq : Int → Int → Int
  dr : Int → Int → Int
  de : Int → Int
  gcd : Int → Int → Int
  rt : Int → Int
  rx : Int → Bool
  re : Int → Int
  pr : Int → ByteArray
  pv : ByteArray → Int
  pe : ByteArray → Int
  ok2 : ByteArray → Bool
  okp : ByteArray → Bool
end
end Go.Proofs.Ytndpfegbbpoopaa.L
namespace Go.Proofs.Ytndpfegbbpoopaa.L
open Go Go.V Go.RowKit Go.Proofs.Ytndpfegbbpoopaa.Sp
open Go.Proofs (Try.prog)
noncomputable section
theorem chk_ms (z : Int) : sg0.chk (sg0.ng z) (sg0.ms z) = 0 := by
  show L.chk (enc z).1 (enc z).2 = 0
  unfold L.chk
  have e1 : magOf (vS (enc z).2) = (enc z).2 := by
    show magOf (vS (magOf z.natAbs)) = magOf z.natAbs
    rw [vS_magOf]
  rw [if_pos e1, if_neg]
  rintro ⟨h1, h2⟩
  unfold enc at h1
  simp only [decide_eq_true_eq] at h1
  have h3 := (toList_nil _).1 h2
  have h3 : (magOf z.natAbs).data.toList = [] := h3
  rw [magOf_data, toB_nil_iff] at h3
  omega
theorem strEq_self (s : ByteArray) : strEq s s = true := by unfold strEq; exact beq_self_eq_true _
theorem eqI {x y : Int} (h : x = y) : (sg0.ng x == sg0.ng y && (strEq (sg0.ms x) (sg0.ms y) && true)) = true := by
  rw [h, beq_self_eq_true, strEq_self]; rfl
theorem ms_zero : sg0.ms 0 = ByteArray.mk #[] := by
  show magOf 0 = _
  unfold magOf
  rw [toB_zero]
theorem eqZ {x : Int} (h : x = 0) : (sg0.ng x == false && (strEq (sg0.ms x) (ByteArray.mk #[]) && true)) = true := by
  rw [h, ms_zero, strEq_self]; rfl
theorem val_nil : sg0.val false (ByteArray.mk #[]) = 0 := rfl
theorem ok_nil : sg0.ok (ByteArray.mk #[]) = true := by
  exact decide_eq_true (show (ByteArray.mk #[]).size ≤ 8796093022208 by decide)
theorem ok_small {s : ByteArray} (h : s.size ≤ 60) : sg0.ok s = true := decide_eq_true (by omega)
theorem cmz_self {x y : Int} (h : x = y) : sg0.cmz x y = 0 := by
  show cmpZ x y = 0
  unfold cmpZ
  rw [if_neg (by omega), if_neg (by omega)]
theorem arg_int (B : Nat → Prop) (w : World) (b : Bool) (s : ByteArray) : (AV.agg [.val (.bool b), .val (.string s)]).Rel Try.prog NoA B w NoD (.agg #[.bool b, .string s]) := ⟨_, rfl, _, _, rfl, rfl, _, _, rfl, rfl, rfl⟩
theorem law_walk {E : Env} {g : FuncId} {args : List AV} {xs : Array Value} (hC : Meets Try.prog E.C) (hL : LoopsOk Try.prog E) (hok : okFn Try.prog g = true) {u d : Nat} (h : callA Try.prog E u d g args = some (.val (.bool true))) (W : World) (ha : RelL Try.prog NoA (fun _ => False) W args NoD xs.toList) :
    Calls Try.prog g xs W fun e w' => e = .returned (.bool true) ∧ Below W.heap.size W w' := by
  refine (callA_sound hC hL mixed hok h (fun _ => False) W xs (fun _ h => h.elim) ha).mono ?_
  rintro e w' ⟨y, rfl, h2, h3⟩
  have h3 : y = .bool true := h3
  exact ⟨by rw [h3], h2⟩
end
end Go.Proofs.Ytndpfegbbpoopaa.L
namespace Go.Proofs.Ytndpfegbbpoopaa.L
open Go Go.V Go.RowKit Go.Proofs.Ytndpfegbbpoopaa.Sp Go.Proofs.Ytndpfegbbpoopaa.F Go.Proofs.YtndpfegbbpoopaaW.PrintWords
open Go.Proofs (Try.prog)
noncomputable section
theorem ng_eq (z : Int) : sg0.ng z = decide (z < 0) := by
  rw [Bool.eq_iff_iff]
  show (enc z).1 = true ↔ _
  unfold enc
  simp only [decide_eq_true_eq]
end
end Go.Proofs.Ytndpfegbbpoopaa.L
namespace Go.Proofs.Ytndpfegbbpoopaa.L
open Go Go.V Go.RowKit Go.Proofs.Ytndpfegbbpoopaa.Sp
open Go.Proofs (Try.prog)
noncomputable section
def dp : Nat → Nat → List Int
  | 0, _ => []
  | k + 1, n => ((n % 10 + 48 : Nat) : Int) :: dp k (n / 10)
theorem dp_len : ∀ (k n : Nat), (dp k n).length = k
  | 0, _ => rfl
  | k + 1, n => by unfold dp; rw [List.length_cons, dp_len k]
theorem dp_add : ∀ (j k n : Nat), dp (j + k) n = dp j n ++ dp k (n / 10 ^ j)
  | 0, k, n => by rw [Nat.zero_add, Nat.pow_zero, Nat.div_one]; rfl
  | j + 1, k, n => by
    rw [show j + 1 + k = (j + k) + 1 by omega]
    show ((n % 10 + 48 : Nat) : Int) :: dp (j + k) (n / 10) = (((n % 10 + 48 : Nat) : Int) :: dp j (n / 10)) ++ _
    rw [dp_add j k (n / 10), Nat.div_div_eq_div_mul, List.cons_append, Nat.pow_succ, Nat.mul_comm 10]
theorem dp_mod : ∀ (k n : Nat), dp k (n % 10 ^ k) = dp k n
  | 0, n => rfl
  | k + 1, n => by
    show ((n % 10 ^ (k + 1) % 10 + 48 : Nat) : Int) :: dp k (n % 10 ^ (k + 1) / 10) = ((n % 10 + 48 : Nat) : Int) :: dp k (n / 10)
    have h1 : n % 10 ^ (k + 1) % 10 = n % 10 := Nat.mod_mod_of_dvd n ⟨10 ^ k, by rw [Nat.pow_succ, Nat.mul_comm]⟩
    have h2 : n % 10 ^ (k + 1) / 10 = n / 10 % 10 ^ k := by rw [Nat.pow_succ, Nat.mul_comm, Nat.mod_mul_right_div_self]
    rw [h1, h2, dp_mod k]
theorem dp_zero : ∀ k, dp k 0 = List.replicate k 48
  | 0 => rfl
  | k + 1 => by
    show (48 : Int) :: dp k (0 / 10) = _
    rw [Nat.zero_div, dp_zero k]; rfl
def dlF : Nat → Nat → Nat
  | 0, _ => 0
  | f + 1, n => if n = 0 then 0 else dlF f (n / 10) + 1
def dl (n : Nat) : Nat := dlF n n
theorem dlF_spec : ∀ (f n : Nat), n ≤ f → n < 10 ^ dlF f n ∧ (dlF f n = 0 ∨ 10 ^ (dlF f n - 1) ≤ n)
  | 0, n, h => by
    have : n = 0 := by omega
    subst this
    exact ⟨by decide, .inl rfl⟩
  | f + 1, n, h => by
    unfold dlF
    by_cases h0 : n = 0
    · rw [if_pos h0, h0]; exact ⟨by decide, .inl rfl⟩
    · rw [if_neg h0]
      obtain ⟨h1, h2⟩ := dlF_spec f (n / 10) (by omega)
      refine ⟨by rw [Nat.pow_succ]; omega, .inr ?_⟩
      rw [Nat.add_sub_cancel]
      rcases h2 with h2 | h2
      · rw [h2]; omega
      · cases hk : dlF f (n / 10) with
        | zero => rw [Nat.pow_zero]; omega
        | succ k => rw [hk, Nat.add_sub_cancel] at h2; rw [Nat.pow_succ]; omega
theorem dl_lt (n : Nat) : n < 10 ^ dl n := (dlF_spec n n (Nat.le_refl _)).1
theorem dl_ge (n : Nat) : dl n = 0 ∨ 10 ^ (dl n - 1) ≤ n := (dlF_spec n n (Nat.le_refl _)).2
theorem dl_le {n k : Nat} (h : n < 10 ^ k) : dl n ≤ k := by
  refine Nat.le_of_not_lt fun hk => ?_
  rcases dl_ge n with h1 | h1
  · omega
  · have := Nat.pow_le_pow_right (show 0 < 10 by decide) (show k ≤ dl n - 1 by omega)
    omega
theorem dl_pos {n : Nat} (h : n ≠ 0) : 0 < dl n := by
  refine Nat.pos_of_ne_zero fun h0 => ?_
  have := dl_lt n
  rw [h0] at this
  omega
theorem dp_more {n k : Nat} (h : n < 10 ^ k) : dp k n = dp (dl n) n ++ List.replicate (k - dl n) 48 := by
  have h1 := dl_le h
  have h2 : n / 10 ^ dl n = 0 := Nat.div_eq_of_lt (dl_lt n)
  rw [show k = dl n + (k - dl n) by omega, dp_add, h2, dp_zero, Nat.add_sub_cancel_left]
theorem dp_get : ∀ (k n i : Nat), i < k → (dp k n).getD i 0 = ((n / 10 ^ i % 10 + 48 : Nat) : Int)
  | 0, n, i, h => by omega
  | k + 1, n, 0, h => by show ((n % 10 + 48 : Nat) : Int) = _; rw [Nat.pow_zero, Nat.div_one]
  | k + 1, n, i + 1, h => by
    show (dp k (n / 10)).getD i 0 = _
    rw [dp_get k (n / 10) i (by omega), Nat.div_div_eq_div_mul, Nat.pow_succ, Nat.mul_comm 10]
theorem dp_top {n : Nat} (h : n ≠ 0) : (dp (dl n) n).getD (dl n - 1) 0 ≠ 48 := by
  have hp := dl_pos h
  rw [dp_get _ _ _ (by omega)]
  have h1 := dl_lt n
  have h2 : 10 ^ (dl n - 1) ≤ n := (dl_ge n).resolve_left (by omega)
  have h3 : 0 < 10 ^ (dl n - 1) := Nat.pow_pos (by decide)
  have h4 : n / 10 ^ (dl n - 1) < 10 := by
    rw [Nat.div_lt_iff_lt_mul h3, Nat.mul_comm, ← Nat.pow_succ, show (dl n - 1).succ = dl n by omega]; exact h1
  have h5 : 1 ≤ n / 10 ^ (dl n - 1) := by rw [Nat.le_div_iff_mul_le h3]; omega
  omega
theorem dp_dig : ∀ (k n : Nat), ∀ z ∈ dp k n, ∃ c : Nat, c < 10 ∧ z = ((c + 48 : Nat) : Int)
  | 0, n, z, h => by cases h
  | k + 1, n, z, h => by
    rcases List.mem_cons.1 h with rfl | h
    · exact ⟨n % 10, by omega, rfl⟩
    · exact dp_dig k _ z h
def txt (z : Int) : ByteArray := if z = 0 then ⟨#[48]⟩ else ofBytes ((if z < 0 then [45] else []) ++ (dp (dl z.natAbs) z.natAbs).reverse)
def okt (s : ByteArray) : Bool := decide (s.size ≤ 1000000)
def tPrt (S : Sg) (tx : Int → ByteArray) : List AV → Option (Bool × AV) := fun args => match args with | [.agg [.val (.bool b), .val (.string s)]] => some (okt s, .val (.string (tx (S.val b s)))) | _ => none
theorem vs_pow (s : ByteArray) : vS s < 10 ^ (9 * s.size) := by
  refine Nat.lt_of_lt_of_le (vS_lt s) ?_
  rw [Nat.pow_mul]
  exact Nat.pow_le_pow_left (by decide) _
theorem dl_uniq {n j : Nat} (h1 : n < 10 ^ j) (h2 : j = 0 ∨ 10 ^ (j - 1) ≤ n) : j = dl n := by
  have h3 := dl_le h1
  rcases Nat.lt_or_ge (dl n) j with h | h
  · exfalso
    rcases h2 with h2 | h2
    · omega
    · have := Nat.pow_le_pow_right (show 0 < 10 by decide) (show dl n ≤ j - 1 by omega)
      have := dl_lt n
      omega
  · omega
theorem dp_u8 (k n : Nat) : ∀ z ∈ (dp k n).reverse, ∃ c : Nat, c < 256 ∧ z = (c : Int) := by
  intro z hz
  obtain ⟨c, hc, rfl⟩ := dp_dig k n z (List.mem_reverse.1 hz)
  exact ⟨c + 48, by omega, rfl⟩
end
end Go.Proofs.Ytndpfegbbpoopaa.L
namespace Go.Proofs.Ytndpfegbbpoopaa.L
open Go Go.V Go.RowKit Go.Proofs.Ytndpfegbbpoopaa.Sp
open Go.Proofs (Try.prog)
noncomputable section
def kck : List Nat := [0, 1, 1003]
abbrev p_ck : List Bool := [false]
def rcP : Rec := ⟨slots 62 [(3, .ptr 1 0)], #[11], 9, [false, true, false, true, true], .ready, none⟩
def sh_ck : List AV := slots 16 [(0, .yld 3), (1, .ptr 2 0)]
def hpA_ck (b : Bool) (s : ByteArray) (xs : List Int) : Hp := [.row (.cells [.val (.bool b), .val (.string s)]) 23 .live, .row (.cells [.val (.slice none 0 0)]) 50 .live, .row (.cells [.lst false 47 xs.length (lim xs)]) 46 .live, .loop rcP]
def hpB_ck (b : Bool) (s : ByteArray) (xs zs : List Int) : Hp := [.row (.cells [.val (.bool b), .val (.string s)]) 23 .live, .row (.cells [.sl false 5 4 0 zs.length]) 50 .live, .row (.cells [.lst false 47 xs.length (lim xs)]) 46 .live, .loop rcP, .row (.ints .u8 zs) 5 .live]
def CCk (S : Sg) : FuncId → List AV → Option (Bool × AV) := addC 43 (tShort S) noC
theorem round_ckA (S : Sg) (b : Bool) (s : ByteArray) (xs : List Int) : letI q_5 := (Rec.mk rcP.T rcP.params (9 : Nat) rcP.path LoopState.busy rcP.pend); letI q_1 := (Rec.mk q_5.T q_5.params (9 : Nat) q_5.path LoopState.ready none); letI q_4 := (IntKind.u32.wrap ((↑(S.num xs.length (lim xs) % (1000000000 : Nat)) : Int).tdiv (10 : Int))); letI q_2 := (IntKind.u32.wrap ((IntKind.u32.wrap (q_4.tdiv (10 : Int))).tdiv (10 : Int))); letI q_3 := (IntKind.u32.wrap ((IntKind.u32.wrap ((IntKind.u32.wrap (q_2.tdiv (10 : Int))).tdiv (10 : Int))).tdiv (10 : Int)));
    (roundF Try.prog ⟨CCk S, fun _ => false, noL⟩ 4 42 kck (lb 42 p_ck) (false :: p_ck) sh_ck (hpA_ck b s xs) = (bif decide ((0 : Int) < (↑xs.length : Int)) then (bif S.okr xs.length (lim xs) && true && true then some (.normal, slots 16 [(0, (.yld 3)), (1, (.ptr 2 0))], [(.row (.cells [(.val (.bool b)), (.val (.string s))]) 23 .live), (.row (.cells [(.sl false 5 4 0 9)]) 50 .live), (.row (.cells [(.lst false 47 (S.len (S.num xs.length (lim xs) / (1000000000 : Nat))) (S.row (S.num xs.length (lim xs) / (1000000000 : Nat))))]) 46 .live), (.loop (.mk [.any, .any, .any, (.ptr 1 0), .any, .any, .any, .any, .any, .any, .any, .any, .any, .any, .any, .any, .any, .any, .any, .any, .any, .any, .any, .any, .any, .any, .any, .any, .any, .any, .any, .any, .any, .any, .any, .any, .any, .any, .any, .any, .any, .any, .any, .any, .any, .any, .any, .any, .any, .any, .any, .any, .any, .any, .any, .any, .any, .any, .any, .any, .any, .any] ((Rec.mk (maskA (recMask kck) q_1.T) q_1.params (9 : Nat) q_1.path q_1.st q_1.pend).params) 9 ((Rec.mk (maskA (recMask kck) q_1.T) q_1.params (9 : Nat) q_1.path q_1.st q_1.pend).path) .ready .none)), (.row (.ints .u8 ([IntKind.u8.wrap (IntKind.u32.wrap ((48 : Int) + (↑(S.num xs.length (lim xs) % (1000000000 : Nat)) : Int).tmod (10 : Int))), IntKind.u8.wrap (IntKind.u32.wrap ((48 : Int) + q_4.tmod (10 : Int))), IntKind.u8.wrap (IntKind.u32.wrap ((48 : Int) + (IntKind.u32.wrap (q_4.tdiv (10 : Int))).tmod (10 : Int))), IntKind.u8.wrap (IntKind.u32.wrap ((48 : Int) + q_2.tmod (10 : Int))), IntKind.u8.wrap (IntKind.u32.wrap ((48 : Int) + (IntKind.u32.wrap (q_2.tdiv (10 : Int))).tmod (10 : Int))), IntKind.u8.wrap (IntKind.u32.wrap ((48 : Int) + (IntKind.u32.wrap ((IntKind.u32.wrap (q_2.tdiv (10 : Int))).tdiv (10 : Int))).tmod (10 : Int))), IntKind.u8.wrap (IntKind.u32.wrap ((48 : Int) + q_3.tmod (10 : Int))), IntKind.u8.wrap (IntKind.u32.wrap ((48 : Int) + (IntKind.u32.wrap (q_3.tdiv (10 : Int))).tmod (10 : Int))), IntKind.u8.wrap (IntKind.u32.wrap ((48 : Int) + (IntKind.u32.wrap ((IntKind.u32.wrap (q_3.tdiv (10 : Int))).tdiv (10 : Int))).tmod (10 : Int)))])) 5 .live)]) else none) else some ((.exit 0), slots 16 [(0, (.yld 3)), (1, (.ptr 2 0))], [(.row (.cells [(.val (.bool b)), (.val (.string s))]) 23 .live), (.row (.cells [(.val (.slice .none 0 0))]) 50 .live), (.row (.cells [(.lst false 47 xs.length (lim xs))]) 46 .live), (.loop (.mk [.any, .any, .any, (.ptr 1 0), .any, .any, .any, .any, .any, .any, .any, .any, .any, .any, .any, .any, .any, .any, .any, .any, .any, .any, .any, .any, .any, .any, .any, .any, .any, .any, .any, .any, .any, .any, .any, .any, .any, .any, .any, .any, .any, .any, .any, .any, .any, .any, .any, .any, .any, .any, .any, .any, .any, .any, .any, .any, .any, .any, .any, .any, .any, .any] ((Rec.mk (maskA (recMask kck) rcP.T) rcP.params (9 : Nat) rcP.path rcP.st rcP.pend).params) 9 ((Rec.mk (maskA (recMask kck) rcP.T) rcP.params (9 : Nat) rcP.path rcP.st rcP.pend).path) .ready .none))]))) := by kernel_rfl
theorem round_ckB (S : Sg) (b : Bool) (s : ByteArray) (xs zs : List Int) : letI q_18 := (zs.length + (1 : Nat) + (1 : Nat) + (1 : Nat) + (1 : Nat)); letI q_20 := (zs.length + (1 : Nat) + (1 : Nat) + (1 : Nat)); letI q_7 := (List.take (zs.length * (1 : Nat)) zs ++ [IntKind.u8.wrap (IntKind.u32.wrap ((48 : Int) + (↑(S.num xs.length (lim xs) % (1000000000 : Nat)) : Int).tmod (10 : Int)))]); letI q_6 := (IntKind.u32.wrap ((↑(S.num xs.length (lim xs) % (1000000000 : Nat)) : Int).tdiv (10 : Int))); letI q_16 := (List.take ((zs.length + (1 : Nat)) * (1 : Nat)) q_7 ++ [IntKind.u8.wrap (IntKind.u32.wrap ((48 : Int) + q_6.tmod (10 : Int)))]); letI q_4 := (List.take ((zs.length + (1 : Nat) + (1 : Nat)) * (1 : Nat)) q_16 ++ [IntKind.u8.wrap (IntKind.u32.wrap ((48 : Int) + (IntKind.u32.wrap (q_6.tdiv (10 : Int))).tmod (10 : Int)))]); letI q_14 := (IntKind.u32.wrap ((IntKind.u32.wrap (q_6.tdiv (10 : Int))).tdiv (10 : Int))); letI q_9 := (List.take (q_20 * (1 : Nat)) q_4 ++ [IntKind.u8.wrap (IntKind.u32.wrap ((48 : Int) + q_14.tmod (10 : Int)))]); letI q_1 := (List.take (q_18 * (1 : Nat)) q_9 ++ [IntKind.u8.wrap (IntKind.u32.wrap ((48 : Int) + (IntKind.u32.wrap (q_14.tdiv (10 : Int))).tmod (10 : Int)))]); letI q_15 := (Rec.mk rcP.T rcP.params (9 : Nat) rcP.path LoopState.busy rcP.pend); letI q_2 := (Rec.mk q_15.T q_15.params (9 : Nat) q_15.path LoopState.ready none); letI q_3 := (IntKind.u32.wrap ((IntKind.u32.wrap (q_14.tdiv (10 : Int))).tdiv (10 : Int))); letI q_13 := (zs.length + (1 : Nat) + (1 : Nat) + (1 : Nat) + (1 : Nat) + (1 : Nat) + (1 : Nat)); letI q_11 := (zs.length + (1 : Nat) + (1 : Nat) + (1 : Nat) + (1 : Nat) + (1 : Nat)); letI q_19 := (List.take (q_11 * (1 : Nat)) q_1 ++ [IntKind.u8.wrap (IntKind.u32.wrap ((48 : Int) + q_3.tmod (10 : Int)))]); letI q_5 := (List.take (q_13 * (1 : Nat)) q_19 ++ [IntKind.u8.wrap (IntKind.u32.wrap ((48 : Int) + (IntKind.u32.wrap (q_3.tdiv (10 : Int))).tmod (10 : Int)))]); letI q_8 := (zs.length + (1 : Nat) + (1 : Nat) + (1 : Nat) + (1 : Nat) + (1 : Nat) + (1 : Nat) + (1 : Nat)); letI q_10 := (zs.length + (1 : Nat) + (1 : Nat) + (1 : Nat) + (1 : Nat) + (1 : Nat) + (1 : Nat) + (1 : Nat) + (1 : Nat)); letI q_12 := (List.take (q_8 * (1 : Nat)) q_5 ++ [IntKind.u8.wrap (IntKind.u32.wrap ((48 : Int) + (IntKind.u32.wrap ((IntKind.u32.wrap (q_3.tdiv (10 : Int))).tdiv (10 : Int))).tmod (10 : Int)))]); letI q_17 := (zs.length + (1 : Nat) + (1 : Nat) + (1 : Nat) + (1 : Nat) + (1 : Nat) + (1 : Nat) + (1 : Nat) + (1 : Nat) + (1 : Nat));
    (roundF Try.prog ⟨CCk S, fun _ => false, noL⟩ 4 42 kck (lb 42 p_ck) (false :: p_ck) sh_ck (hpB_ck b s xs zs) = (bif decide ((0 : Int) < (↑xs.length : Int)) then (bif S.okr xs.length (lim xs) && true && true then (bif decide (zs.length * (1 : Nat) ≤ zs.length) && roomA Try.prog (zs.length + (1 : Nat)) (5 : Nat) && true then (bif decide ((zs.length + (1 : Nat)) * (1 : Nat) ≤ q_7.length) && roomA Try.prog (zs.length + (1 : Nat) + (1 : Nat)) (5 : Nat) && true then (bif decide ((zs.length + (1 : Nat) + (1 : Nat)) * (1 : Nat) ≤ q_16.length) && roomA Try.prog q_20 (5 : Nat) && true then (bif decide (q_20 * (1 : Nat) ≤ q_4.length) && roomA Try.prog q_18 (5 : Nat) && true then (bif decide (q_18 * (1 : Nat) ≤ q_9.length) && roomA Try.prog q_11 (5 : Nat) && true then (bif decide (q_11 * (1 : Nat) ≤ q_1.length) && roomA Try.prog q_13 (5 : Nat) && true then (bif decide (q_13 * (1 : Nat) ≤ q_19.length) && roomA Try.prog q_8 (5 : Nat) && true then (bif decide (q_8 * (1 : Nat) ≤ q_5.length) && roomA Try.prog q_10 (5 : Nat) && true then (bif decide (q_10 * (1 : Nat) ≤ q_12.length) && roomA Try.prog q_17 (5 : Nat) && true then some (.normal, slots 16 [(0, (.yld 3)), (1, (.ptr 2 0))], [(.row (.cells [(.val (.bool b)), (.val (.string s))]) 23 .live), (.row (.cells [(.sl false 5 4 0 q_17)]) 50 .live), (.row (.cells [(.lst false 47 (S.len (S.num xs.length (lim xs) / (1000000000 : Nat))) (S.row (S.num xs.length (lim xs) / (1000000000 : Nat))))]) 46 .live), (.loop (.mk [.any, .any, .any, (.ptr 1 0), .any, .any, .any, .any, .any, .any, .any, .any, .any, .any, .any, .any, .any, .any, .any, .any, .any, .any, .any, .any, .any, .any, .any, .any, .any, .any, .any, .any, .any, .any, .any, .any, .any, .any, .any, .any, .any, .any, .any, .any, .any, .any, .any, .any, .any, .any, .any, .any, .any, .any, .any, .any, .any, .any, .any, .any, .any, .any] ((Rec.mk (maskA (recMask kck) q_2.T) q_2.params (9 : Nat) q_2.path q_2.st q_2.pend).params) 9 ((Rec.mk (maskA (recMask kck) q_2.T) q_2.params (9 : Nat) q_2.path q_2.st q_2.pend).path) .ready .none)), (.row (.ints .u8 (List.take (q_10 * (1 : Nat)) q_12 ++ [IntKind.u8.wrap (IntKind.u32.wrap ((48 : Int) + (IntKind.u32.wrap ((IntKind.u32.wrap ((IntKind.u32.wrap (q_3.tdiv (10 : Int))).tdiv (10 : Int))).tdiv (10 : Int))).tmod (10 : Int)))])) 5 .live)]) else none) else none) else none) else none) else none) else none) else none) else none) else none) else none) else some ((.exit 0), slots 16 [(0, (.yld 3)), (1, (.ptr 2 0))], [(.row (.cells [(.val (.bool b)), (.val (.string s))]) 23 .live), (.row (.cells [(.sl false 5 4 0 zs.length)]) 50 .live), (.row (.cells [(.lst false 47 xs.length (lim xs))]) 46 .live), (.loop (.mk [.any, .any, .any, (.ptr 1 0), .any, .any, .any, .any, .any, .any, .any, .any, .any, .any, .any, .any, .any, .any, .any, .any, .any, .any, .any, .any, .any, .any, .any, .any, .any, .any, .any, .any, .any, .any, .any, .any, .any, .any, .any, .any, .any, .any, .any, .any, .any, .any, .any, .any, .any, .any, .any, .any, .any, .any, .any, .any, .any, .any, .any, .any, .any, .any] ((Rec.mk (maskA (recMask kck) rcP.T) rcP.params (9 : Nat) rcP.path rcP.st rcP.pend).params) 9 ((Rec.mk (maskA (recMask kck) rcP.T) rcP.params (9 : Nat) rcP.path rcP.st rcP.pend).path) .ready .none)), (.row (.ints .u8 zs) 5 .live)]))) := by kernel_rfl
theorem CCk_ok : Meets Try.prog (CCk sg0) := (meets_none _).add eShort
theorem body_ck : subC Try.prog 42 p_ck = some (.loop (lb 42 p_ck)) := by kernel_rfl
theorem code_ck : subC Try.prog 42 (false :: p_ck) = some (lb 42 p_ck) := by kernel_rfl
theorem step_ck {T : List AV} {H : Hp} {e : Ex} {T' : List AV} {H' : Hp} (h : roundF Try.prog ⟨CCk sg0, fun _ => false, noL⟩ 4 42 kck (lb 42 p_ck) (false :: p_ck) T H = some (e, T', H')) : V.Ends Try.prog false 4 0 (lb 42 p_ck) T H e T' H' :=
  round_endsF CCk_ok loops_none mixed code_ck h
theorem dgt (c : Nat) : IntKind.u8.wrap (IntKind.u32.wrap (48 + ((c : Nat) : Int).tmod 10)) = ((c % 10 + 48 : Nat) : Int) := by
  have e : ((c : Nat) : Int).tmod 10 = ((c % 10 : Nat) : Int) := rfl
  rw [e, IntKind.wrap_u32, IntKind.wrap_u8]
  omega
theorem dvt (c : Nat) (h : c < 4294967296) : IntKind.u32.wrap (((c : Nat) : Int).tdiv 10) = ((c / 10 : Nat) : Int) := by
  have e : ((c : Nat) : Int).tdiv 10 = ((c / 10 : Nat) : Int) := rfl
  rw [e, IntKind.wrap_u32]
  omega
theorem len_pow {n k : Nat} (h : n < 10 ^ (9 * k)) : (toL n).length ≤ 4 * k := by
  refine Nat.le_trans (len_bs n) (bs_le (Nat.lt_of_lt_of_le h ?_))
  rw [Nat.pow_mul, Nat.pow_mul]
  exact Nat.pow_le_pow_left (by decide) k
theorem num_toL (n : Nat) : sg0.num (toL n).length (lim (toL n)) = n := num_row n
theorem ok_toL {n k : Nat} (h : n < 10 ^ (9 * k)) (hk : k ≤ 1000000000) : sg0.okr (toL n).length (lim (toL n)) = true := by
  have h1 := len_pow h
  show (okB (toL n).length (lim (toL n)) && decide ((toL n).length ≤ 17592186044416)) = true
  rw [okB_enc, decide_eq_true (show (toL n).length ≤ 17592186044416 by omega)]
  rfl
theorem toL_pos {n : Nat} (h : n ≠ 0) : (0 : Int) < ((toL n).length : Int) := by
  rcases Nat.eq_zero_or_pos (toL n).length with h1 | h1
  · have h2 := vL_toL n
    rw [List.eq_nil_of_length_eq_zero h1] at h2
    exact absurd h2.symm h
  · omega
theorem ck_step (b : Bool) (s : ByteArray) {n k : Nat} (h0 : n ≠ 0) (h : n < 10 ^ (9 * k)) (hk : k ≤ 1000000000) :
    V.Ends Try.prog false 4 0 (lb 42 p_ck) sh_ck (hpA_ck b s (toL n)) .normal sh_ck (hpB_ck b s (toL (n / 10 ^ 9)) (dp 9 n)) ∧
    ∀ zs : List Int, zs.length ≤ 1000000000000 → V.Ends Try.prog false 4 0 (lb 42 p_ck) sh_ck (hpB_ck b s (toL n) zs) .normal sh_ck (hpB_ck b s (toL (n / 10 ^ 9)) (zs ++ dp 9 n)) := by
  have hc : n % 1000000000 < 1000000000 := Nat.mod_lt _ (by decide)
  have e9 : dp 9 n = dp 9 (n % 1000000000) := (dp_mod 9 n).symm
  constructor
  · refine step_ck ?_
    rw [round_ckA, num_toL, ok_toL h hk, dT (toL_pos h0), e9]
    generalize n % 1000000000 = c at *
    simp only [dgt, dvt c (by omega), dvt (c / 10) (by omega), dvt (c / 10 / 10) (by omega), dvt (c / 10 / 10 / 10) (by omega), dvt (c / 10 / 10 / 10 / 10) (by omega), dvt (c / 10 / 10 / 10 / 10 / 10) (by omega), dvt (c / 10 / 10 / 10 / 10 / 10 / 10) (by omega), dvt (c / 10 / 10 / 10 / 10 / 10 / 10 / 10) (by omega)]
    rfl
  · intro zs hz
    refine step_ck ?_
    rw [round_ckB, num_toL, ok_toL h hk, dT (toL_pos h0), e9]
    generalize n % 1000000000 = c at *
    simp only [dgt, dvt c (by omega), dvt (c / 10) (by omega), dvt (c / 10 / 10) (by omega), dvt (c / 10 / 10 / 10) (by omega), dvt (c / 10 / 10 / 10 / 10) (by omega), dvt (c / 10 / 10 / 10 / 10 / 10) (by omega), dvt (c / 10 / 10 / 10 / 10 / 10 / 10) (by omega), dvt (c / 10 / 10 / 10 / 10 / 10 / 10 / 10) (by omega)]
    simp only [Nat.mul_one, Nat.add_assoc, Nat.reduceAdd, List.take_length, List.take_of_length_le, List.length_append, List.length_cons, List.length_nil, Nat.le_refl, Nat.zero_add, List.append_assoc, List.cons_append, List.nil_append, decide_true]
    rw [room5 (zs.length + 1) (by omega), room5 (zs.length + 2) (by omega), room5 (zs.length + 3) (by omega), room5 (zs.length + 4) (by omega), room5 (zs.length + 5) (by omega), room5 (zs.length + 6) (by omega), room5 (zs.length + 7) (by omega), room5 (zs.length + 8) (by omega), room5 (zs.length + 9) (by omega)]
    unfold hpB_ck
    rw [List.length_append, dp_len]
    rfl
theorem ck_end (b : Bool) (s : ByteArray) (zs : List Int) : V.Ends Try.prog false 4 0 (lb 42 p_ck) sh_ck (hpB_ck b s (toL 0) zs) (.exit 0) sh_ck (hpB_ck b s [] zs) := by
  refine step_ck ?_
  have e : toL 0 = [] := toL_zero
  rw [e, round_ckB, dF (show ¬ (0 : Int) < (([] : List Int).length : Int) by decide)]
  rfl
theorem ck_go (b : Bool) (s : ByteArray) : ∀ (k n : Nat) (zs : List Int), n < 10 ^ (9 * k) → k ≤ 1000000000 → zs.length + 9 * k ≤ 1000000000000 → ∃ m, m ≤ k ∧ n < 10 ^ (9 * m) ∧ LoopToB Try.prog 4 (lb 42 p_ck) sh_ck (hpB_ck b s (toL n) zs) (.exit 0) sh_ck (hpB_ck b s [] (zs ++ dp (9 * m) n)) := by
  intro k
  induction k with
  | zero =>
    intro n zs h hk hz
    have : n = 0 := by rw [Nat.mul_zero, Nat.pow_zero] at h; omega
    subst this
    refine ⟨0, Nat.le_refl _, by decide, ?_⟩
    rw [show zs ++ dp (9 * 0) 0 = zs from List.append_nil zs]
    exact .last (ck_end b s zs) (by intro h; cases h)
  | succ k ih =>
    intro n zs h hk hz
    by_cases h0 : n = 0
    · subst h0
      refine ⟨0, Nat.zero_le _, by decide, ?_⟩
      rw [show zs ++ dp (9 * 0) 0 = zs from List.append_nil zs]
      exact .last (ck_end b s zs) (by intro h; cases h)
    · have hd : n / 10 ^ 9 < 10 ^ (9 * k) := by
        rw [Nat.div_lt_iff_lt_mul (by decide), ← Nat.pow_add, show 9 * k + 9 = 9 * (k + 1) by omega]; exact h
      obtain ⟨m, h1, h2, h3⟩ := ih (n / 10 ^ 9) (zs ++ dp 9 n) hd (by omega) (by rw [List.length_append, dp_len]; omega)
      refine ⟨m + 1, by omega, ?_, ?_⟩
      · rw [show 9 * (m + 1) = 9 * m + 9 by omega, Nat.pow_add, ← Nat.div_lt_iff_lt_mul (by decide)]; exact h2
      · rw [show 9 * (m + 1) = 9 + 9 * m by omega, dp_add, ← List.append_assoc]
        exact .more ((ck_step b s h0 h hk).2 zs (by omega)) h3
theorem ck_all (b : Bool) (s : ByteArray) {k n : Nat} (h0 : n ≠ 0) (h : n < 10 ^ (9 * k)) (hk : k ≤ 1000000000) : ∃ j, j ≤ 9 * k ∧ n < 10 ^ j ∧ LoopToB Try.prog 4 (lb 42 p_ck) sh_ck (hpA_ck b s (toL n)) (.exit 0) sh_ck (hpB_ck b s [] (dp j n)) := by
  cases k with
  | zero => rw [Nat.mul_zero, Nat.pow_zero] at h; omega
  | succ k =>
    have hd : n / 10 ^ 9 < 10 ^ (9 * k) := by
      rw [Nat.div_lt_iff_lt_mul (by decide), ← Nat.pow_add, show 9 * k + 9 = 9 * (k + 1) by omega]; exact h
    obtain ⟨m, h1, h2, h3⟩ := ck_go b s k (n / 10 ^ 9) (dp 9 n) hd (by omega) (by rw [dp_len]; omega)
    refine ⟨9 + 9 * m, by omega, ?_, ?_⟩
    · rw [Nat.add_comm, Nat.pow_add, ← Nat.div_lt_iff_lt_mul (by decide)]; exact h2
    · rw [dp_add]
      exact .more (ck_step b s h0 h hk).1 h3
abbrev KT_ck : Type := Bool → ByteArray → Nat → (Nat → Nat → AV) → Rec → Bool
abbrev FT_ck : Type := Bool → ByteArray → Nat → (Nat → Nat → AV) → List Int
def told_ck (κ : KT_ck) (φ : FT_ck) (T : List AV) (H : Hp) : Option (Bool × Ex × List AV × Hp) :=
  match lget T 0, lget T 1, H with
  | .yld 3, .ptr 2 0, [.row (.cells [.val (.bool b), .val (.string s)]) 23 .live, .row (.cells [.val (.slice none 0 0)]) 50 .live, .row (.cells [.lst false 47 m f]) 46 .live, .loop r] => bif T.length == 16 then some (κ b s m f r, .exit 0, sh_ck, hpB_ck b s [] (φ b s m f)) else none
  | _, _, _ => none
def LL_ck (κ : KT_ck) (φ : FT_ck) (L : LTab) : LTab := addLn 4 42 p_ck kck (told_ck κ φ) L
def post_ck (b : Bool) (s : ByteArray) (m : Nat) (f : Nat → Nat → AV) (zs : List Int) : Prop := ∃ n j, m = (toL n).length ∧ f = lim (toL n) ∧ j ≤ 1000000000 ∧ n < 10 ^ j ∧ zs = dp j n ∧ LoopToB Try.prog 4 (lb 42 p_ck) sh_ck (hpA_ck b s (toL n)) (.exit 0) sh_ck (hpB_ck b s [] zs)
def pre_ck (m : Nat) (f : Nat → Nat → AV) (r : Rec) : Prop := r = rcP ∧ ∃ n k, n ≠ 0 ∧ n < 10 ^ (9 * k) ∧ k ≤ 100000000 ∧ m = (toL n).length ∧ f = lim (toL n)
def phi_ck (b : Bool) (s : ByteArray) (m : Nat) (f : Nat → Nat → AV) : List Int := Classical.epsilon (post_ck b s m f)
def cond_ck (b : Bool) (s : ByteArray) (m : Nat) (f : Nat → Nat → AV) (r : Rec) : Bool := @decide (pre_ck m f r) (Classical.propDecidable _)
theorem phi_ck_spec (b : Bool) (s : ByteArray) {m : Nat} {f : Nat → Nat → AV} {r : Rec} (h : pre_ck m f r) : post_ck b s m f (phi_ck b s m f) := by
  obtain ⟨_, n, k, h0, h1, hk, h2, h3⟩ := h
  obtain ⟨j, h4, h5, h6⟩ := ck_all b s h0 h1 (by omega)
  exact Classical.epsilon_spec (p := post_ck b s m f) ⟨dp j n, n, j, h2, h3, by omega, h5, rfl, h6⟩
theorem cond_ck_eq (b : Bool) (s : ByteArray) {m : Nat} {f : Nat → Nat → AV} {r : Rec} (h : pre_ck m f r) : cond_ck b s m f r = true := @decide_eq_true _ (Classical.propDecidable _) h
theorem told_ck_ok (T : List AV) (H : Hp) (e : Ex) (T1 : List AV) (H1 : Hp) (h : told_ck cond_ck phi_ck T H = some (true, e, T1, H1)) : V.Ends Try.prog false 4 0 (.loop (lb 42 p_ck)) T H e T1 H1 := by
  unfold told_ck at h
  split at h
  · rename_i b s m f r h0 h1
    rw [Bool.cond_eq_ite] at h
    split at h
    · rename_i hlen
      rw [beq_iff_eq] at hlen
      simp only [Option.some.injEq, Prod.mk.injEq] at h
      obtain ⟨k1, rfl, rfl, rfl⟩ := h
      have kc : pre_ck m f r := @of_decide_eq_true _ (Classical.propDecidable _) k1
      have hs := phi_ck_spec b s kc
      obtain ⟨n, j, e1, e2, _, _, _, h6⟩ := hs
      rw [kc.1]
      subst e1 e2
      refine Ends.pre h6.ends (fun α B w D ys hr => slots_rel hlen (fun p hp y hy => ?_) hr)
      simp only [List.mem_cons, List.not_mem_nil, or_false] at hp
      rcases hp with rfl | rfl
      · rw [h0] at hy; exact hy
      · rw [h1] at hy; exact hy
    · cases h
  · cases h
theorem LL_ck_ok {L : LTab} (h : LOk Try.prog L) : LOk Try.prog (LL_ck cond_ck phi_ck L) := h.add2n body_ck told_ck_ok
end
end Go.Proofs.Ytndpfegbbpoopaa.L
namespace Go.Proofs.Ytndpfegbbpoopaa.L
open Go Go.V Go.RowKit Go.Proofs.Ytndpfegbbpoopaa.Sp
open Go.Proofs (Try.prog)
noncomputable section
abbrev p_tz : List Bool := [false, false, true, true, true]
def sh_tz (b : Bool) (s : ByteArray) (n : Nat) (zs : List Int) : List AV := slots 62 [(1, .ptr 0 0), (3, .ptr 1 0)]
def hp_tz (b : Bool) (s : ByteArray) (n : Nat) (zs : List Int) : Hp := [.row (.cells [.val (.bool b), .val (.string s)]) 23 .live, .row (.cells [.sl false 5 2 0 n]) 50 .live, .row (.ints .u8 zs) 5 .live]
theorem body_tz : subC Try.prog 9 p_tz = some (.loop (lb 9 p_tz)) := by kernel_rfl
theorem code_tz : subC Try.prog 9 (false :: p_tz) = some (lb 9 p_tz) := by kernel_rfl
theorem round_tz  (b : Bool) (s : ByteArray) (n : Nat) (zs : List Int) :
    (roundA Try.prog EL0 9 [1, 3] (lb 9 p_tz) (false :: p_tz) (sh_tz b s n zs) (hp_tz b s n zs) = (bif decide ((0 : Int) < (↑n : Int)) then (bif inR IntKind.i64 ((↑n : Int) - (1 : Int)) then (bif decide ((0 : Int) ≤ (↑n : Int) - (1 : Int)) && decide ((↑n : Int) - (1 : Int) < (↑n : Int)) then (bif decide ((0 : Nat) + ((↑n : Int) - (1 : Int)).toNat * (1 : Nat) < zs.length) then (bif decide (zs.getD ((0 : Nat) + ((↑n : Int) - (1 : Int)).toNat * (1 : Nat)) (0 : Int) = (48 : Int)) then (bif inR IntKind.i64 ((↑n : Int) - (1 : Int)) then (bif decide ((0 : Int) ≤ (↑n : Int) - (1 : Int)) && decide ((↑n : Int) - (1 : Int) ≤ (↑n : Int)) then some (.normal, slots 62 [(1, (.ptr 0 0)), (3, (.ptr 1 0))], [(.row (.cells [(.val (.bool b)), (.val (.string s))]) 23 .live), (.row (.cells [(.sl false 5 2 0 (((↑n : Int) - (1 : Int)).toNat - (0 : Nat)))]) 50 .live), (.row (.ints .u8 zs) 5 .live)]) else none) else none) else some ((.exit 4), slots 62 [(1, (.ptr 0 0)), (3, (.ptr 1 0))], [(.row (.cells [(.val (.bool b)), (.val (.string s))]) 23 .live), (.row (.cells [(.sl false 5 2 0 n)]) 50 .live), (.row (.ints .u8 zs) 5 .live)])) else none) else none) else none) else some ((.exit 4), slots 62 [(1, (.ptr 0 0)), (3, (.ptr 1 0))], [(.row (.cells [(.val (.bool b)), (.val (.string s))]) 23 .live), (.row (.cells [(.sl false 5 2 0 n)]) 50 .live), (.row (.ints .u8 zs) 5 .live)]))) := by kernel_rfl
theorem step_tz {b : Bool} {s : ByteArray} {n : Nat} {zs : List Int} {e : Ex} {T : List AV} {H : Hp} (h : roundA Try.prog EL0 9 [1, 3] (lb 9 p_tz) (false :: p_tz) (sh_tz b s n zs) (hp_tz b s n zs) = some (e, T, H)) : V.Ends Try.prog false 0 0 (lb 9 p_tz) (sh_tz b s n zs) (hp_tz b s n zs) e T H :=
  round_ends (meets_none _) loops_none mixed code_tz h
def pre_tz (b : Bool) (s : ByteArray) (n : Nat) (zs : List Int) : Prop := n ≤ zs.length ∧ zs.length ≤ 1000000000000
def post_tz (b : Bool) (s : ByteArray) (n : Nat) (zs : List Int) (r : Nat) : Prop := r ≤ n ∧ (∀ i, r ≤ i → i < n → zs.getD i 0 = 48) ∧ (r = 0 ∨ zs.getD (r - 1) 0 ≠ 48)
theorem loop_tz (b : Bool) (s : ByteArray) (n : Nat) (zs : List Int) (h : pre_tz b s n zs) : ∃ r : Nat, LoopTo Try.prog (lb 9 p_tz) (sh_tz b s n zs) (hp_tz b s n zs) (.exit 4) (sh_tz b s r zs) (hp_tz b s r zs) ∧ post_tz b s n zs r := by
  obtain ⟨h1, h2⟩ := h
  induction n with
  | zero =>
    refine ⟨0, .last (step_tz ?_) (by intro h; cases h), Nat.le_refl _, fun i hi h => by omega, .inl rfl⟩
    rw [round_tz, dF (show ¬ (0 : Int) < ((0 : Nat) : Int) by decide)]
    rfl
  | succ n ih =>
    have hr := round_tz b s (n + 1) zs
    have e1 : (((n + 1 : Nat) : Int) - 1) = (n : Int) := by omega
    rw [e1, dT (show (0 : Int) < ((n + 1 : Nat) : Int) by omega), i64T (z := (n : Int)) (by omega), dT (show (0 : Int) ≤ (n : Int) by omega), dT (show (n : Int) < ((n + 1 : Nat) : Int) by omega), dT (show (n : Int) ≤ ((n + 1 : Nat) : Int) by omega), Int.toNat_natCast, Nat.mul_one, Nat.zero_add, dT (show n < zs.length by omega)] at hr
    by_cases hz : zs.getD n 0 = 48
    · rw [dT hz] at hr
      obtain ⟨r, k1, k2, k3, k4⟩ := ih (by omega)
      refine ⟨r, .more (step_tz hr) k1, by omega, fun i h3 h4 => ?_, k4⟩
      by_cases hi : i = n
      · rw [hi]; exact hz
      · exact k3 i h3 (by omega)
    · rw [dF hz] at hr
      exact ⟨n + 1, .last (step_tz hr) (by intro h; cases h), Nat.le_refl _, fun i h3 h4 => by omega, .inr (by rw [Nat.add_sub_cancel]; exact hz)⟩
def told_tz (κ : Bool → ByteArray → Nat → List Int → Bool) (φ : Bool → ByteArray → Nat → List Int → Nat) (T : List AV) (H : Hp) : Option (Bool × Ex × List AV × Hp) :=
  match lget T 1, lget T 3, H with
  | .ptr 0 0, .ptr 1 0, [.row (.cells [.val (.bool b), .val (.string s)]) 23 .live, .row (.cells [.sl false 5 2 0 n]) 50 .live, .row (.ints .u8 zs) 5 .live] => bif T.length == 62 then some (κ b s n zs, .exit 4, sh_tz b s ((φ b s n zs)) zs, hp_tz b s ((φ b s n zs)) zs) else none
  | _, _, _ => none
abbrev KT_tz : Type := Bool → ByteArray → Nat → List Int → Bool
abbrev FT_tz : Type := Bool → ByteArray → Nat → List Int → Nat
def LL_tz (κ : KT_tz) (φ : FT_tz) (L : LTab) : LTab := addLn 0 9 p_tz [1, 3] (told_tz κ φ) L
def phi_tz (b : Bool) (s : ByteArray) (n : Nat) (zs : List Int) : Nat := Classical.epsilon fun ρ => LoopTo Try.prog (lb 9 p_tz) (sh_tz b s n zs) (hp_tz b s n zs) (.exit 4) (sh_tz b s (ρ) zs) (hp_tz b s (ρ) zs) ∧ post_tz b s n zs ρ
theorem phi_tz_spec (b : Bool) (s : ByteArray) (n : Nat) (zs : List Int) (h : pre_tz b s n zs) : LoopTo Try.prog (lb 9 p_tz) (sh_tz b s n zs) (hp_tz b s n zs) (.exit 4) (sh_tz b s ((phi_tz b s n zs)) zs) (hp_tz b s ((phi_tz b s n zs)) zs) ∧ post_tz b s n zs (phi_tz b s n zs) := Classical.epsilon_spec (loop_tz b s n zs h)
def cond_tz (b : Bool) (s : ByteArray) (n : Nat) (zs : List Int) : Bool := @decide (pre_tz b s n zs) (Classical.propDecidable _)
theorem cond_tz_eq (b : Bool) (s : ByteArray) (n : Nat) (zs : List Int) (h : pre_tz b s n zs) : cond_tz b s n zs = true := @decide_eq_true _ (Classical.propDecidable _) h
theorem told_tz_ok (T : List AV) (H : Hp) (e : Ex) (T1 : List AV) (H1 : Hp) (h : told_tz cond_tz phi_tz T H = some (true, e, T1, H1)) : V.Ends Try.prog false 0 0 (.loop (lb 9 p_tz)) T H e T1 H1 := by
  unfold told_tz at h
  split at h
  · rename_i b s n zs h1 h3
    rw [Bool.cond_eq_ite] at h
    split at h
    · rename_i hlen
      rw [beq_iff_eq] at hlen
      simp only [Option.some.injEq, Prod.mk.injEq, Bool.and_eq_true, decide_eq_true_eq] at h
      obtain ⟨k1, rfl, rfl, rfl⟩ := h
      have kc := @of_decide_eq_true _ (Classical.propDecidable _) k1
      refine Ends.pre (phi_tz_spec b s n zs kc).1.ends (fun α B w D ys hr => slots_rel hlen (fun p hp y hy => ?_) hr)
      simp only [List.mem_cons, List.not_mem_nil, or_false] at hp
      rcases hp with rfl | rfl
      · rw [h1] at hy; exact hy
      · rw [h3] at hy; exact hy
    · cases h
  · cases h
theorem LL_tz_ok {L : LTab} (h : LOk Try.prog L) : LOk Try.prog (LL_tz cond_tz phi_tz L) := h.add2n body_tz told_tz_ok
abbrev p_wB : List Bool := [false, true, false, true, true, true, true, true, true]
def sh_wB (i : Int) (n : Nat) (zs : List Int) (ws : List Int) : List AV := slots 62 [(3, .ptr 0 0), (5, .ptr 1 0), (6, .val (.int .i64 i))]
def hp_wB (i : Int) (n : Nat) (zs : List Int) (ws : List Int) : Hp := [.row (.cells [.sl false 5 2 0 n]) 50 .live, .row (.cells [.ptr 1 0, .sl false 5 3 0 ws.length]) 59 .live, .row (.ints .u8 zs) 5 .live, .row (.ints .u8 ws) 5 .live]
theorem body_wB : subC Try.prog 9 p_wB = some (.loop (lb 9 p_wB)) := by kernel_rfl
theorem code_wB : subC Try.prog 9 (false :: p_wB) = some (lb 9 p_wB) := by kernel_rfl
theorem round_wB  (i : Int) (n : Nat) (zs : List Int) (ws : List Int) : roundA Try.prog EL0 9 [3, 5, 6] (lb 9 p_wB) (false :: p_wB) (sh_wB i n zs ws) (hp_wB i n zs ws) =
    (bif decide ((0 : Int) ≤ i) then (bif decide ((0 : Int) ≤ i) && decide (i < (↑n : Int)) then (bif decide ((0 : Nat) + i.toNat * (1 : Nat) < zs.length) then (bif decide (ws.length * (1 : Nat) ≤ ws.length) && roomA Try.prog (ws.length + (1 : Nat)) (5 : Nat) && true then (bif inR IntKind.i64 (i - (1 : Int)) then some (.normal, slots 62 [(3, (.ptr 0 0)), (5, (.ptr 1 0)), (6, (.val (.int .i64 (i - (1 : Int)))))], [(.row (.cells [(.sl false 5 2 0 n)]) 50 .live), (.row (.cells [(.ptr 1 0), (.sl false 5 3 0 (ws.length + (1 : Nat)))]) 59 .live), (.row (.ints .u8 zs) 5 .live), (.row (.ints .u8 (List.take (ws.length * (1 : Nat)) ws ++ [zs.getD ((0 : Nat) + i.toNat * (1 : Nat)) (0 : Int)])) 5 .live)]) else none) else none) else none) else none) else some ((.exit 7), slots 62 [(3, (.ptr 0 0)), (5, (.ptr 1 0)), (6, (.val (.int .i64 i)))], [(.row (.cells [(.sl false 5 2 0 n)]) 50 .live), (.row (.cells [(.ptr 1 0), (.sl false 5 3 0 ws.length)]) 59 .live), (.row (.ints .u8 zs) 5 .live), (.row (.ints .u8 ws) 5 .live)])) := by kernel_rfl
theorem step_wB {i : Int} {n : Nat} {zs : List Int} {ws : List Int} {e : Ex} {T : List AV} {H : Hp} (h : roundA Try.prog EL0 9 [3, 5, 6] (lb 9 p_wB) (false :: p_wB) (sh_wB i n zs ws) (hp_wB i n zs ws) = some (e, T, H)) : V.Ends Try.prog false 0 0 (lb 9 p_wB) (sh_wB i n zs ws) (hp_wB i n zs ws) e T H :=
  round_ends (meets_none _) loops_none mixed code_wB h
def pre_wB (i : Int) (n : Nat) (zs ws : List Int) : Prop := i = (n : Int) - 1 ∧ n ≤ zs.length ∧ zs.length ≤ 1000000000000 ∧ ws.length ≤ 1000000000000
def post_wB (i : Int) (n : Nat) (zs ws : List Int) (r : Int × List Int) : Prop := r.2 = ws ++ (zs.take n).reverse
theorem rev_take (zs : List Int) (k : Nat) (h : k < zs.length) : (zs.take (k + 1)).reverse = zs.getD k 0 :: (zs.take k).reverse := by
  rw [List.take_succ_eq_append_getElem h, List.reverse_append, List.getD_eq_getElem?_getD, List.getElem?_eq_getElem h]
  rfl
theorem wB_go (n : Nat) (zs : List Int) (hn : n ≤ zs.length) (hz : zs.length ≤ 1000000000000) : ∀ (k : Nat) (ws : List Int), k ≤ n → ws.length + k ≤ 3000000000000 → LoopTo Try.prog (lb 9 p_wB) (sh_wB ((k : Int) - 1) n zs ws) (hp_wB ((k : Int) - 1) n zs ws) (.exit 7) (sh_wB (-1) n zs (ws ++ (zs.take k).reverse)) (hp_wB (-1) n zs (ws ++ (zs.take k).reverse)) := by
  intro k
  induction k with
  | zero =>
    intro ws hk hl
    refine .last (step_wB ?_) (by intro h; cases h)
    rw [round_wB, dF (show ¬ (0 : Int) ≤ ((0 : Nat) : Int) - 1 by decide), List.take_zero, List.reverse_nil, List.append_nil]
    rfl
  | succ k ih =>
    intro ws hk hl
    have hr := round_wB (((k + 1 : Nat) : Int) - 1) n zs ws
    have e1 : (((k + 1 : Nat) : Int) - 1) = (k : Int) := by omega
    rw [e1, dT (show (0 : Int) ≤ (k : Int) by omega), dT (show (k : Int) < (n : Int) by omega), Int.toNat_natCast, Nat.mul_one, Nat.mul_one, Nat.zero_add, dT (show k < zs.length by omega), dT (show ws.length ≤ ws.length by omega), room5 (ws.length + 1) (by omega), i64T (z := (k : Int) - 1) (by omega), List.take_length] at hr
    rw [e1]
    have := ih (ws ++ [zs.getD k 0]) (by omega) (by rw [List.length_append]; show ws.length + 1 + k ≤ _; omega)
    rw [rev_take zs k (by omega), show ws ++ zs.getD k 0 :: (zs.take k).reverse = ws ++ [zs.getD k 0] ++ (zs.take k).reverse by rw [List.append_assoc]; rfl]
    refine .more (step_wB (T := sh_wB ((k : Int) - 1) n zs (ws ++ [zs.getD k 0])) (H := hp_wB ((k : Int) - 1) n zs (ws ++ [zs.getD k 0])) ?_) this
    rw [hr]
    unfold sh_wB hp_wB
    rw [List.length_append]
    rfl
theorem loop_wB (i : Int) (n : Nat) (zs ws : List Int) (h : pre_wB i n zs ws) : ∃ r : Int × List Int, LoopTo Try.prog (lb 9 p_wB) (sh_wB i n zs ws) (hp_wB i n zs ws) (.exit 7) (sh_wB r.1 n zs r.2) (hp_wB r.1 n zs r.2) ∧ post_wB i n zs ws r := by
  obtain ⟨rfl, h1, h2, h3⟩ := h
  exact ⟨(-1, ws ++ (zs.take n).reverse), wB_go n zs h1 h2 n ws (Nat.le_refl _) (by omega), rfl⟩
def told_wB (κ : Int → Nat → List Int → List Int → Bool) (φ : Int → Nat → List Int → List Int → Int × List Int) (T : List AV) (H : Hp) : Option (Bool × Ex × List AV × Hp) :=
  match lget T 3, lget T 5, lget T 6, H with
  | .ptr 0 0, .ptr 1 0, .val (.int .i64 i), [.row (.cells [.sl false 5 2 0 n]) 50 .live, .row (.cells [.ptr 1 0, .sl false 5 3 0 mh_ws]) 59 .live, .row (.ints .u8 zs) 5 .live, .row (.ints .u8 ws) 5 .live] => bif T.length == 62 then some (decide (mh_ws = ws.length) && κ i n zs ws, .exit 7, sh_wB ((φ i n zs ws).1) n zs ((φ i n zs ws).2), hp_wB ((φ i n zs ws).1) n zs ((φ i n zs ws).2)) else none
  | _, _, _, _ => none
abbrev KT_wB : Type := Int → Nat → List Int → List Int → Bool
abbrev FT_wB : Type := Int → Nat → List Int → List Int → Int × List Int
def LL_wB (κ : KT_wB) (φ : FT_wB) (L : LTab) : LTab := addLn 0 9 p_wB [3, 5, 6] (told_wB κ φ) L
def phi_wB (i : Int) (n : Nat) (zs : List Int) (ws : List Int) : Int × List Int := Classical.epsilon fun ρ => LoopTo Try.prog (lb 9 p_wB) (sh_wB i n zs ws) (hp_wB i n zs ws) (.exit 7) (sh_wB (ρ.1) n zs (ρ.2)) (hp_wB (ρ.1) n zs (ρ.2)) ∧ post_wB i n zs ws ρ
theorem phi_wB_spec (i : Int) (n : Nat) (zs : List Int) (ws : List Int) (h : pre_wB i n zs ws) : LoopTo Try.prog (lb 9 p_wB) (sh_wB i n zs ws) (hp_wB i n zs ws) (.exit 7) (sh_wB ((phi_wB i n zs ws).1) n zs ((phi_wB i n zs ws).2)) (hp_wB ((phi_wB i n zs ws).1) n zs ((phi_wB i n zs ws).2)) ∧ post_wB i n zs ws (phi_wB i n zs ws) := Classical.epsilon_spec (loop_wB i n zs ws h)
def cond_wB (i : Int) (n : Nat) (zs : List Int) (ws : List Int) : Bool := @decide (pre_wB i n zs ws) (Classical.propDecidable _)
theorem cond_wB_eq (i : Int) (n : Nat) (zs : List Int) (ws : List Int) (h : pre_wB i n zs ws) : cond_wB i n zs ws = true := @decide_eq_true _ (Classical.propDecidable _) h
theorem told_wB_ok (T : List AV) (H : Hp) (e : Ex) (T1 : List AV) (H1 : Hp) (h : told_wB cond_wB phi_wB T H = some (true, e, T1, H1)) : V.Ends Try.prog false 0 0 (.loop (lb 9 p_wB)) T H e T1 H1 := by
  unfold told_wB at h
  split at h
  · rename_i i n mh_ws zs ws h3 h5 h6
    rw [Bool.cond_eq_ite] at h
    split at h
    · rename_i hlen
      rw [beq_iff_eq] at hlen
      simp only [Option.some.injEq, Prod.mk.injEq, Bool.and_eq_true, decide_eq_true_eq] at h
      obtain ⟨⟨k1, k2⟩, rfl, rfl, rfl⟩ := h
      subst k1
      have kc := @of_decide_eq_true _ (Classical.propDecidable _) k2
      refine Ends.pre (phi_wB_spec i n zs ws kc).1.ends (fun α B w D ys hr => slots_rel hlen (fun p hp y hy => ?_) hr)
      simp only [List.mem_cons, List.not_mem_nil, or_false] at hp
      rcases hp with rfl | rfl | rfl
      · rw [h3] at hy; exact hy
      · rw [h5] at hy; exact hy
      · rw [h6] at hy; exact hy
    · cases h
  · cases h
theorem LL_wB_ok {L : LTab} (h : LOk Try.prog L) : LOk Try.prog (LL_wB cond_wB phi_wB L) := h.add2n body_wB told_wB_ok
abbrev p_wA : List Bool := [false, true, false, true, true, true, true, true, true]
def sh_wA (i : Int) (n : Nat) (zs : List Int) : List AV := slots 62 [(3, .ptr 0 0), (5, .ptr 1 0), (6, .val (.int .i64 i))]
def hp_wA (i : Int) (n : Nat) (zs : List Int) : Hp := [.row (.cells [.sl false 5 2 0 n]) 50 .live, .row (.cells [.val (.pointer none), .val (.slice none 0 0)]) 59 .live, .row (.ints .u8 zs) 5 .live]
theorem body_wA : subC Try.prog 9 p_wA = some (.loop (lb 9 p_wA)) := by kernel_rfl
theorem code_wA : subC Try.prog 9 (false :: p_wA) = some (lb 9 p_wA) := by kernel_rfl
theorem round_wA  (i : Int) (n : Nat) (zs : List Int) : roundA Try.prog EL0 9 [3, 5, 6] (lb 9 p_wA) (false :: p_wA) (sh_wA i n zs) (hp_wA i n zs) =
    (bif decide ((0 : Int) ≤ i) then (bif decide ((0 : Int) ≤ i) && decide (i < (↑n : Int)) then (bif decide ((0 : Nat) + i.toNat * (1 : Nat) < zs.length) then (bif inR IntKind.i64 (i - (1 : Int)) then some (.normal, slots 62 [(3, (.ptr 0 0)), (5, (.ptr 1 0)), (6, (.val (.int .i64 (i - (1 : Int)))))], [(.row (.cells [(.sl false 5 2 0 n)]) 50 .live), (.row (.cells [(.ptr 1 0), (.sl false 5 3 0 1)]) 59 .live), (.row (.ints .u8 zs) 5 .live), (.row (.ints .u8 ([zs.getD ((0 : Nat) + i.toNat * (1 : Nat)) (0 : Int)])) 5 .live)]) else none) else none) else none) else some ((.exit 7), slots 62 [(3, (.ptr 0 0)), (5, (.ptr 1 0)), (6, (.val (.int .i64 i)))], [(.row (.cells [(.sl false 5 2 0 n)]) 50 .live), (.row (.cells [(.val (.pointer .none)), (.val (.slice .none 0 0))]) 59 .live), (.row (.ints .u8 zs) 5 .live)])) := by kernel_rfl
theorem step_wA {i : Int} {n : Nat} {zs : List Int} {e : Ex} {T : List AV} {H : Hp} (h : roundA Try.prog EL0 9 [3, 5, 6] (lb 9 p_wA) (false :: p_wA) (sh_wA i n zs) (hp_wA i n zs) = some (e, T, H)) : V.Ends Try.prog false 0 0 (lb 9 p_wA) (sh_wA i n zs) (hp_wA i n zs) e T H :=
  round_ends (meets_none _) loops_none mixed code_wA h
def pre_wA (i : Int) (n : Nat) (zs : List Int) : Prop := i = (n : Int) - 1 ∧ 0 < n ∧ n ≤ zs.length ∧ zs.length ≤ 1000000000000
def post_wA (i : Int) (n : Nat) (zs : List Int) (r : Int × List Int) : Prop := r.2 = (zs.take n).reverse
theorem loop_wA (i : Int) (n : Nat) (zs : List Int) (h : pre_wA i n zs) : ∃ r : Int × List Int, LoopTo Try.prog (lb 9 p_wA) (sh_wA i n zs) (hp_wA i n zs) (.exit 7) (sh_wB r.1 n zs r.2) (hp_wB r.1 n zs r.2) ∧ post_wA i n zs r := by
  obtain ⟨rfl, h1, h2, h3⟩ := h
  cases n with
  | zero => omega
  | succ k =>
    have hr := round_wA (((k + 1 : Nat) : Int) - 1) (k + 1) zs
    have e1 : (((k + 1 : Nat) : Int) - 1) = (k : Int) := by omega
    rw [e1, dT (show (0 : Int) ≤ (k : Int) by omega), dT (show (k : Int) < ((k + 1 : Nat) : Int) by omega), Int.toNat_natCast, Nat.mul_one, Nat.zero_add, dT (show k < zs.length by omega), i64T (z := (k : Int) - 1) (by omega)] at hr
    rw [e1]
    have := wB_go (k + 1) zs h2 h3 k [zs.getD k 0] (by omega) (by show 1 + k ≤ _; omega)
    refine ⟨(-1, [zs.getD k 0] ++ (zs.take k).reverse), .more (step_wA hr) this, ?_⟩
    show [zs.getD k 0] ++ (zs.take k).reverse = _
    rw [rev_take zs k (by omega)]
    rfl
def told_wA (κ : Int → Nat → List Int → Bool) (φ : Int → Nat → List Int → Int × List Int) (T : List AV) (H : Hp) : Option (Bool × Ex × List AV × Hp) :=
  match lget T 3, lget T 5, lget T 6, H with
  | .ptr 0 0, .ptr 1 0, .val (.int .i64 i), [.row (.cells [.sl false 5 2 0 n]) 50 .live, .row (.cells [.val (.pointer none), .val (.slice none 0 0)]) 59 .live, .row (.ints .u8 zs) 5 .live] => bif T.length == 62 then some (κ i n zs, .exit 7, sh_wB ((φ i n zs).1) n zs ((φ i n zs).2), hp_wB ((φ i n zs).1) n zs ((φ i n zs).2)) else none
  | _, _, _, _ => none
abbrev KT_wA : Type := Int → Nat → List Int → Bool
abbrev FT_wA : Type := Int → Nat → List Int → Int × List Int
def LL_wA (κ : KT_wA) (φ : FT_wA) (L : LTab) : LTab := addLn 0 9 p_wA [3, 5, 6] (told_wA κ φ) L
def phi_wA (i : Int) (n : Nat) (zs : List Int) : Int × List Int := Classical.epsilon fun ρ => LoopTo Try.prog (lb 9 p_wA) (sh_wA i n zs) (hp_wA i n zs) (.exit 7) (sh_wB (ρ.1) n zs (ρ.2)) (hp_wB (ρ.1) n zs (ρ.2)) ∧ post_wA i n zs ρ
theorem phi_wA_spec (i : Int) (n : Nat) (zs : List Int) (h : pre_wA i n zs) : LoopTo Try.prog (lb 9 p_wA) (sh_wA i n zs) (hp_wA i n zs) (.exit 7) (sh_wB ((phi_wA i n zs).1) n zs ((phi_wA i n zs).2)) (hp_wB ((phi_wA i n zs).1) n zs ((phi_wA i n zs).2)) ∧ post_wA i n zs (phi_wA i n zs) := Classical.epsilon_spec (loop_wA i n zs h)
def cond_wA (i : Int) (n : Nat) (zs : List Int) : Bool := @decide (pre_wA i n zs) (Classical.propDecidable _)
theorem cond_wA_eq (i : Int) (n : Nat) (zs : List Int) (h : pre_wA i n zs) : cond_wA i n zs = true := @decide_eq_true _ (Classical.propDecidable _) h
theorem told_wA_ok (T : List AV) (H : Hp) (e : Ex) (T1 : List AV) (H1 : Hp) (h : told_wA cond_wA phi_wA T H = some (true, e, T1, H1)) : V.Ends Try.prog false 0 0 (.loop (lb 9 p_wA)) T H e T1 H1 := by
  unfold told_wA at h
  split at h
  · rename_i i n zs h3 h5 h6
    rw [Bool.cond_eq_ite] at h
    split at h
    · rename_i hlen
      rw [beq_iff_eq] at hlen
      simp only [Option.some.injEq, Prod.mk.injEq, Bool.and_eq_true, decide_eq_true_eq] at h
      obtain ⟨k1, rfl, rfl, rfl⟩ := h
      have kc := @of_decide_eq_true _ (Classical.propDecidable _) k1
      refine Ends.pre (phi_wA_spec i n zs kc).1.ends (fun α B w D ys hr => slots_rel hlen (fun p hp y hy => ?_) hr)
      simp only [List.mem_cons, List.not_mem_nil, or_false] at hp
      rcases hp with rfl | rfl | rfl
      · rw [h3] at hy; exact hy
      · rw [h5] at hy; exact hy
      · rw [h6] at hy; exact hy
    · cases h
  · cases h
theorem LL_wA_ok {L : LTab} (h : LOk Try.prog L) : LOk Try.prog (LL_wA cond_wA phi_wA L) := h.add2n body_wA told_wA_ok
def CPr (S : Sg) : FuncId → List AV → Option (Bool × AV) := addC 25 (tLoad S) noC
theorem print_f (S : Sg) (κ1 : KT_ck) (φ1 : FT_ck) (κ2 : KT_tz) (φ2 : FT_tz) (κ3 : KT_wA) (φ3 : FT_wA) (s : ByteArray) : letI z := (φ1 false s (S.len (S.vs s)) (S.row (S.vs s))); letI n := (φ2 false s z.length z); letI w := (φ3 (((n : Nat) : Int) - 1) n z);
    (callA Try.prog ⟨CPr S, fun _ => false, LL_ck κ1 φ1 (LL_tz κ2 φ2 (LL_wA κ3 φ3 noL))⟩ 10 10 9 [.agg [.val (.bool false), .val (.string s)]] = (bif S.ok s then (bif κ1 false s (S.len (S.vs s)) (S.row (S.vs s)) rcP then (bif κ2 false s z.length z then (bif decide (((n : Nat) : Int) = 0) then some (.val (.string (ByteArray.mk #[(48 : UInt8)]))) else (bif inR .i64 (((n : Nat) : Int) - 1) then (bif κ3 (((n : Nat) : Int) - 1) n z then (bif w.2.length == 0 then none else (bif decide ((0 : Int) < (w.2.length : Int)) && decide ((w.2.length : Int) ≤ 9223372036854775807) && decide ((w.2.length : Int).toNat ≤ w.2.length) && w.2.all (inR .u8) && true then some (.val (.string (ofBytes (w.2.take (w.2.length : Int).toNat)))) else none)) else none) else none)) else none) else none) else none)) := by kernel_rfl
theorem print_t (S : Sg) (κ1 : KT_ck) (φ1 : FT_ck) (κ2 : KT_tz) (φ2 : FT_tz) (κ3 : KT_wB) (φ3 : FT_wB) (s : ByteArray) : letI z := (φ1 true s (S.len (S.vs s)) (S.row (S.vs s))); letI n := (φ2 true s z.length z); letI w := (φ3 (((n : Nat) : Int) - 1) n z [(45 : Int)]);
    (callA Try.prog ⟨CPr S, fun _ => false, LL_ck κ1 φ1 (LL_tz κ2 φ2 (LL_wB κ3 φ3 noL))⟩ 10 10 9 [.agg [.val (.bool true), .val (.string s)]] = (bif S.ok s then (bif κ1 true s (S.len (S.vs s)) (S.row (S.vs s)) rcP then (bif κ2 true s z.length z then (bif decide (((n : Nat) : Int) = 0) then some (.val (.string (ByteArray.mk #[(48 : UInt8)]))) else (bif inR .i64 (((n : Nat) : Int) - 1) then (bif κ3 (((n : Nat) : Int) - 1) n z [(45 : Int)] then (bif w.2.length == 0 then none else (bif decide ((0 : Int) < (w.2.length : Int)) && decide ((w.2.length : Int) ≤ 9223372036854775807) && decide ((w.2.length : Int).toNat ≤ w.2.length) && w.2.all (inR .u8) && true then some (.val (.string (ofBytes (w.2.take (w.2.length : Int).toNat)))) else none)) else none) else none)) else none) else none) else none)) := by kernel_rfl
def tLoad0 : List AV → Option (Bool × AV) := fun args => match args with | [.val (.string s)] => some (okt s && decide (vS s = 0), .lst false 47 0 (lim [])) | _ => none
def CPr0 : FuncId → List AV → Option (Bool × AV) := addC 25 tLoad0 noC
theorem print_0 (b : Bool) (s : ByteArray) : callA Try.prog ⟨CPr0, fun _ => false, noL⟩ 10 10 9 [.agg [.val (.bool b), .val (.string s)]] = (bif okt s && decide (vS s = (0 : Nat)) then some (.val (.string (ByteArray.mk #[(48 : UInt8)]))) else none) := by kernel_rfl
def tP0 : List AV → Option (Bool × AV) := fun args => match args with | [.agg [.val (.bool b), .val (.string s)]] => some (okt s && decide (vS s = 0), .val (.string ⟨#[48]⟩)) | _ => none
def tPt (c : Bool) (w0 : List Int) : List AV → Option (Bool × AV) := fun args => match args with | [.agg [.val (.bool b), .val (.string s)]] => some (okt s && (b == c) && !decide (vS s = 0), .val (.string (ofBytes (w0 ++ (dp (dl (vS s)) (vS s)).reverse)))) | _ => none
theorem eLoad0 : Entry Try.prog 25 tLoad0 := entry_less eLoad fun args r h => by
  unfold tLoad0 at h
  split at h
  · rename_i s
    simp only [Option.some.injEq, Prod.mk.injEq, Bool.and_eq_true, decide_eq_true_eq] at h
    obtain ⟨⟨h1, h2⟩, rfl⟩ := h
    have h1 : s.size ≤ 1000000 := of_decide_eq_true h1
    have e : sg0.lmb (sg0.vs s) = .lst false 47 0 (lim []) := by
      show AV.lst false 47 (toL (vS s)).length (lim (toL (vS s))) = _
      rw [h2, toL_zero]; rfl
    show some (sg0.ok s, sg0.lmb (sg0.vs s)) = _
    rw [e]
    refine congrArg some (Prod.ext ?_ rfl)
    exact decide_eq_true (show s.size ≤ 8796093022208 by omega)
  · cases h
theorem eP0 : Entry Try.prog 9 tP0 := by
  refine entry_of (E := ⟨CPr0, fun _ => false, noL⟩) (u := 10) (d := 10) ((meets_none _).add eLoad0) loops_none mixed (by kernel_rfl) (fun args r h => ?_)
  unfold tP0 at h
  split at h
  · rename_i b s
    simp only [Option.some.injEq, Prod.mk.injEq] at h
    obtain ⟨h1, rfl⟩ := h
    rw [print_0, h1]
    rfl
  · cases h
theorem CPr_ok : Meets Try.prog (CPr sg0) := (meets_none _).add eLoad
theorem trim_dp {n j r : Nat} (h0 : n ≠ 0) (hj : n < 10 ^ j) (h1 : r ≤ j) (h2 : ∀ i, r ≤ i → i < j → (dp j n).getD i 0 = 48) (h3 : r = 0 ∨ (dp j n).getD (r - 1) 0 ≠ 48) : r = dl n ∧ (dp j n).take r = dp (dl n) n := by
  have hl := dl_le hj
  have hp := dl_pos h0
  have ht := dp_top h0
  rw [dp_get _ _ _ (by omega)] at ht
  have hr : r = dl n := by
    rcases Nat.lt_trichotomy r (dl n) with h | h | h
    · exfalso
      have := h2 (dl n - 1) (by omega) (by omega)
      rw [dp_get _ _ _ (by omega)] at this
      exact ht this
    · exact h
    · exfalso
      rcases h3 with h3 | h3
      · omega
      · apply h3
        rw [dp_get _ _ _ (by omega), Nat.div_eq_of_lt (Nat.lt_of_lt_of_le (dl_lt n) (Nat.pow_le_pow_right (by decide) (by omega)))]
        rfl
  refine ⟨hr, ?_⟩
  rw [dp_more hj, hr]
  exact List.take_left' (dp_len _ _)
theorem all_u8 {l : List Int} (h : ∀ z ∈ l, ∃ c : Nat, c < 256 ∧ z = (c : Int)) : l.all (inR .u8) = true := by
  rw [List.all_eq_true]
  intro z hz
  obtain ⟨c, hc, rfl⟩ := h z hz
  unfold inR
  rw [Bool.and_eq_true, decide_eq_true_eq, decide_eq_true_eq]
  exact ⟨by show (0 : Int) ≤ _; omega, by show _ ≤ (255 : Int); omega⟩
theorem pr_mid (b : Bool) (s : ByteArray) (h1 : s.size ≤ 1000000) (h0 : vS s ≠ 0) : cond_ck b s (toL (vS s)).length (lim (toL (vS s))) rcP = true ∧
    ∃ j, j ≤ 1000000000 ∧ phi_ck b s (toL (vS s)).length (lim (toL (vS s))) = dp j (vS s) ∧ cond_tz b s j (dp j (vS s)) = true ∧ phi_tz b s j (dp j (vS s)) = dl (vS s) ∧ (dp j (vS s)).take (dl (vS s)) = dp (dl (vS s)) (vS s) ∧ dl (vS s) ≤ j := by
  have hp : pre_ck (toL (vS s)).length (lim (toL (vS s))) rcP := ⟨rfl, vS s, s.size, h0, vs_pow s, by omega, rfl, rfl⟩
  refine ⟨cond_ck_eq b s hp, ?_⟩
  obtain ⟨n, j, e1, e2, hj, hn, hz, _⟩ := phi_ck_spec b s hp
  have en : n = vS s := by
    have h := num_toL n
    rw [← e1, ← e2, num_toL] at h
    exact h.symm
  subst en
  have hq : pre_tz b s j (dp j (vS s)) := ⟨by rw [dp_len]; exact Nat.le_refl _, by rw [dp_len]; omega⟩
  obtain ⟨_, k1, k2, k3⟩ := phi_tz_spec b s j (dp j (vS s)) hq
  obtain ⟨t1, t2⟩ := trim_dp h0 hn k1 k2 k3
  rw [t1] at t2
  exact ⟨j, hj, hz, cond_tz_eq _ _ _ _ hq, t1, t2, dl_le hn⟩
theorem ePt : Entry Try.prog 9 (tPt true [45]) := by
  refine entry_of (E := ⟨CPr sg0, fun _ => false, LL_ck cond_ck phi_ck (LL_tz cond_tz phi_tz (LL_wB cond_wB phi_wB noL))⟩) (u := 10) (d := 10) CPr_ok (LL_ck_ok (LL_tz_ok (LL_wB_ok LOk.none))).ok mixed (by kernel_rfl) (fun args r h => ?_)
  unfold tPt at h
  split at h
  · rename_i b s
    simp only [Option.some.injEq, Prod.mk.injEq, Bool.and_eq_true, beq_iff_eq, Bool.not_eq_true', decide_eq_false_iff_not] at h
    obtain ⟨⟨⟨h1, rfl⟩, h0⟩, rfl⟩ := h
    have h1 : s.size ≤ 1000000 := of_decide_eq_true h1
    obtain ⟨c1, j, hj, e1, c2, e2, e3, hl⟩ := pr_mid true s h1 h0
    have hp := dl_pos h0
    have hv : sg0.vs s = vS s := rfl
    have hsl : sg0.len (sg0.vs s) = (toL (vS s)).length := rfl
    have hsr : sg0.row (sg0.vs s) = lim (toL (vS s)) := rfl
    have hok : sg0.ok s = true := decide_eq_true (show s.size ≤ 8796093022208 by omega)
    have hq : pre_wB ((dl (vS s) : Int) - 1) (dl (vS s)) (dp j (vS s)) [45] := ⟨rfl, by rw [dp_len]; exact hl, by rw [dp_len]; omega, by show 1 ≤ _; omega⟩
    have hw := (phi_wB_spec _ _ _ _ hq).2
    unfold post_wB at hw
    rw [e3] at hw
    have hcall := print_t sg0 cond_ck phi_ck cond_tz phi_tz cond_wB phi_wB s
    simp only [hsl, hsr, e1, dp_len, e2, hw] at hcall
    rw [hcall, hok, c1, c2, cond_wB_eq _ _ _ _ hq, dF (show ¬ ((dl (vS s) : Nat) : Int) = 0 by omega), i64T (z := ((dl (vS s) : Nat) : Int) - 1) (by omega), Int.toNat_natCast, List.take_length]
    have hlen : ([45] ++ (dp (dl (vS s)) (vS s)).reverse).length = dl (vS s) + 1 := by rw [List.length_append, List.length_reverse, dp_len]; show 1 + _ = _; omega
    rw [hlen, dT (show (0 : Int) < ((dl (vS s) + 1 : Nat) : Int) by omega), dT (show ((dl (vS s) + 1 : Nat) : Int) ≤ 9223372036854775807 by omega), dT (Nat.le_refl _), all_u8 (fun z hz => by
      rcases List.mem_append.1 hz with h | h
      · rw [List.mem_singleton] at h; exact ⟨45, by decide, h⟩
      · exact dp_u8 _ _ z h)]
    rfl
  · cases h
theorem ePf : Entry Try.prog 9 (tPt false []) := by
  refine entry_of (E := ⟨CPr sg0, fun _ => false, LL_ck cond_ck phi_ck (LL_tz cond_tz phi_tz (LL_wA cond_wA phi_wA noL))⟩) (u := 10) (d := 10) CPr_ok (LL_ck_ok (LL_tz_ok (LL_wA_ok LOk.none))).ok mixed (by kernel_rfl) (fun args r h => ?_)
  unfold tPt at h
  split at h
  · rename_i b s
    simp only [Option.some.injEq, Prod.mk.injEq, Bool.and_eq_true, beq_iff_eq, Bool.not_eq_true', decide_eq_false_iff_not] at h
    obtain ⟨⟨⟨h1, rfl⟩, h0⟩, rfl⟩ := h
    have h1 : s.size ≤ 1000000 := of_decide_eq_true h1
    obtain ⟨c1, j, hj, e1, c2, e2, e3, hl⟩ := pr_mid false s h1 h0
    have hp := dl_pos h0
    have hsl : sg0.len (sg0.vs s) = (toL (vS s)).length := rfl
    have hsr : sg0.row (sg0.vs s) = lim (toL (vS s)) := rfl
    have hok : sg0.ok s = true := decide_eq_true (show s.size ≤ 8796093022208 by omega)
    have hq : pre_wA ((dl (vS s) : Int) - 1) (dl (vS s)) (dp j (vS s)) := ⟨rfl, hp, by rw [dp_len]; exact hl, by rw [dp_len]; omega⟩
    have hw := (phi_wA_spec _ _ _ hq).2
    unfold post_wA at hw
    rw [e3] at hw
    have hcall := print_f sg0 cond_ck phi_ck cond_tz phi_tz cond_wA phi_wA s
    simp only [hsl, hsr, e1, dp_len, e2, hw] at hcall
    rw [hcall, hok, c1, c2, cond_wA_eq _ _ _ hq, dF (show ¬ ((dl (vS s) : Nat) : Int) = 0 by omega), i64T (z := ((dl (vS s) : Nat) : Int) - 1) (by omega), Int.toNat_natCast, List.take_length, List.length_reverse, dp_len, dT (show (0 : Int) < ((dl (vS s) : Nat) : Int) by omega), dT (show ((dl (vS s) : Nat) : Int) ≤ 9223372036854775807 by omega), dT (Nat.le_refl _), all_u8 (dp_u8 _ _), show (dl (vS s) == 0) = false by rw [beq_eq_false_iff_ne]; omega]
    rfl
  · cases h
theorem ePrint : Entry Try.prog 9 (tPrt sg0 txt) := by
  intro args r h
  have h' := h
  unfold tPrt at h'
  split at h'
  · rename_i b s
    simp only [Option.some.injEq, Prod.mk.injEq] at h'
    obtain ⟨h1, rfl⟩ := h'
    have hv : sg0.val b s = if b = true then -(vS s : Int) else (vS s : Int) := rfl
    by_cases h0 : vS s = 0
    · refine eP0 _ _ ?_
      have e : txt (sg0.val b s) = ⟨#[48]⟩ := by
        unfold txt
        rw [if_pos (by rw [hv, h0]; cases b <;> rfl)]
      show some (okt s && decide (vS s = 0), _) = _
      rw [h1, dT h0, e]; rfl
    · cases b with
      | true =>
        refine ePt _ _ ?_
        have e : txt (sg0.val true s) = ofBytes ([45] ++ (dp (dl (vS s)) (vS s)).reverse) := by
          have h2 : sg0.val true s = -(vS s : Int) := rfl
          unfold txt
          rw [h2, if_neg (by omega), if_pos (show -(vS s : Int) < 0 by omega), Int.natAbs_neg, Int.natAbs_natCast]
        show some (okt s && (true == true) && !decide (vS s = 0), _) = _
        rw [h1, dF h0, e]; rfl
      | false =>
        refine ePf _ _ ?_
        have e : txt (sg0.val false s) = ofBytes ([] ++ (dp (dl (vS s)) (vS s)).reverse) := by
          have h2 : sg0.val false s = (vS s : Int) := rfl
          unfold txt
          rw [h2, if_neg (by omega), if_neg (show ¬ (vS s : Int) < 0 by omega), Int.natAbs_natCast]
        show some (okt s && (false == false) && !decide (vS s = 0), _) = _
        rw [h1, dF h0, e]; rfl
  · cases h'
end
end Go.Proofs.Ytndpfegbbpoopaa.L
