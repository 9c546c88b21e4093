/- Leading zeros, Div32, Add32, short, told. -/
import Derived.Test.YtlpfnbopmigefaaZL
set_option linter.unusedVariables false
set_option linter.unusedSimpArgs false

/- Leading zeros, Div32, Add32, short, told. -/
set_option linter.unusedVariables false
set_option linter.unusedSimpArgs false
namespace Go.Proofs.Ytlpfnbopmigefaa.L
open Go Go.V Go.RowKit Go.Proofs.Ytlpfnbopmigefaa.Sp Go.Proofs.Ytlpfnbopmigefaa.F Go.Proofs.YtlpfnbopmigefaaW.PrintWords
open Go.Proofs (Try.prog)
noncomputable section
def tLead (S : Sg) (args : List AV) : Option (Bool × AV) := match args with | [.val (.int .u32 x)] => some (inU x, .val (.int .i64 (32 - (S.bl x.toNat : Int)))) | _ => none
theorem eLead : Entry Try.prog 78 (tLead sg0) := by
  refine entry_of (E := ⟨CLn sg0, Kall, noL⟩) (u := 10) (d := 10) CLn_ok loops_none mixed (by kernel_rfl) (fun args r h => ?_)
  unfold tLead at h
  split at h
  · rename_i x
    simp only [Option.some.injEq, Prod.mk.injEq] at h
    obtain ⟨h1, rfl⟩ := h
    rw [lead_call, h1]
    obtain ⟨n, hn, rfl⟩ := inU_out h1
    have hb := bl_le n 32 hn
    rw [Int.toNat_natCast, i64T (show -9223372036854775808 ≤ (32 : Int) - (sg0.bl n : Int) ∧ (32 : Int) - (sg0.bl n : Int) ≤ 9223372036854775807 by omega)]
    rfl
  · cases h
def tDiv32 (args : List AV) : Option (Bool × AV) := match args with
  | [.val (.int .u32 x), .val (.int .u32 y), .val (.int .u32 z)] => some (inU x && inU y && inU z && decide (x < z), .tup [.val (.int .u32 ((x * 4294967296 + y) / z)), .val (.int .u32 ((x * 4294967296 + y) % z))])
  | _ => none
theorem join64 (h l : Nat) (hh : h < 4294967296) (hl : l < 4294967296) : bitI .or .u64 (IntKind.u64.wrap ((h : Int) * 4294967296)) (l : Int) = ((h * 4294967296 + l : Nat) : Int) := by
  have e := or64 h l hh hl
  rw [u64n (a := l) (by omega)] at e
  exact e
theorem eDiv32 : Entry Try.prog 85 tDiv32 := by
  refine entry_of (E := E000) (u := 10) (d := 10) (meets_none _) loops_none mixed (by kernel_rfl) (fun args r h => ?_)
  unfold tDiv32 at h
  split at h
  · simp only [Option.some.injEq, Prod.mk.injEq, Bool.and_eq_true, decide_eq_true_eq] at h
    obtain ⟨⟨⟨⟨h1, h2⟩, h3⟩, h4⟩, rfl⟩ := h
    obtain ⟨x, hx, rfl⟩ := inU_out h1
    obtain ⟨y, hy, rfl⟩ := inU_out h2
    obtain ⟨z, hz, rfl⟩ := inU_out h3
    have hq : (x * 4294967296 + y) / z < 4294967296 := by
      rw [Nat.div_lt_iff_lt_mul (by omega)]
      have : (x + 1) * 4294967296 ≤ z * 4294967296 := Nat.mul_le_mul_right _ (by omega)
      omega
    have hr : (x * 4294967296 + y) % z < z := Nat.mod_lt _ (by omega)
    rw [div32_call, dF (show ¬ (z : Int) = 0 by omega), dF (show ¬ (z : Int) ≤ x by omega), u64T (show 0 ≤ (x : Int) ∧ (x : Int) ≤ 18446744073709551615 by omega), u64T (show 0 ≤ (y : Int) ∧ (y : Int) ≤ 18446744073709551615 by omega), u64T (show 0 ≤ (z : Int) ∧ (z : Int) ≤ 18446744073709551615 by omega), join64 x y hx hy]
    rw [show Int.tdiv ((x * 4294967296 + y : Nat) : Int) (z : Int) = (((x * 4294967296 + y) / z : Nat) : Int) from rfl, show Int.tmod ((x * 4294967296 + y : Nat) : Int) (z : Int) = (((x * 4294967296 + y) % z : Nat) : Int) from rfl, u64n (by omega), u32w, u32w, Nat.mod_eq_of_lt hq, Nat.mod_eq_of_lt (show (x * 4294967296 + y) % z < 4294967296 by omega)]
    rfl
  · cases h
def tAdd32 (args : List AV) : Option (Bool × AV) := match args with
  | [.val (.int .u32 x), .val (.int .u32 y), .val (.int .u32 z)] => some (inU x && inU y && inU z && decide (z ≤ 1), .tup [.val (.int .u32 ((x + y + z) % 4294967296)), .val (.int .u32 ((x + y + z) / 4294967296))])
  | _ => none
theorem eAdd32 : Entry Try.prog 86 tAdd32 := by
  refine entry_of (E := E000) (u := 10) (d := 10) (meets_none _) loops_none mixed (by kernel_rfl) (fun args r h => ?_)
  unfold tAdd32 at h
  split at h
  · simp only [Option.some.injEq, Prod.mk.injEq, Bool.and_eq_true, decide_eq_true_eq] at h
    obtain ⟨⟨⟨⟨h1, h2⟩, h3⟩, h4⟩, rfl⟩ := h
    obtain ⟨x, hx, rfl⟩ := inU_out h1
    obtain ⟨y, hy, rfl⟩ := inU_out h2
    obtain ⟨z, hz, rfl⟩ := inU_out h3
    rw [add32_call, u64T (show 0 ≤ (x : Int) ∧ (x : Int) ≤ 18446744073709551615 by omega), u64T (show 0 ≤ (y : Int) ∧ (y : Int) ≤ 18446744073709551615 by omega), u64T (show 0 ≤ (z : Int) ∧ (z : Int) ≤ 18446744073709551615 by omega), ← Int.natCast_add, u64n (show x + y < 18446744073709551616 by omega), ← Int.natCast_add, u64n (show x + y + z < 18446744073709551616 by omega), u32w, fdiv32, u32w, Nat.mod_eq_of_lt (show (x + y + z) / 4294967296 < 4294967296 by omega)]
    rfl
  · cases h
/-! ### short -/
def ED32 : Env := ⟨addC 85 tDiv32 noC, Kall, noL⟩
theorem ED32_ok : Meets Try.prog ED32.C := (meets_none _).add eDiv32
abbrev p_short : List Bool := [false, true, false, true, true, true]
def sh_short (xs : List Int) (y : Int) (zs : List Int) (r : Int) (i : Int) : List AV := slots 35 [(0, .lst false 64 xs.length (lim xs)), (1, .val (.int .u32 y)), (6, .sl false 64 0 0 zs.length), (7, .val (.int .u32 r)), (8, .val (.int .i64 i))]
def hp_short (xs : List Int) (y : Int) (zs : List Int) (r : Int) (i : Int) : Hp := [.row (.ints .u32 zs) 64 .live]
theorem body_short : subC Try.prog 77 p_short = some (.loop (lb 77 p_short)) := by kernel_rfl
theorem code_short : subC Try.prog 77 (false :: p_short) = some (lb 77 p_short) := by kernel_rfl
theorem round_short  (xs : List Int) (y : Int) (zs : List Int) (r : Int) (i : Int) : roundA Try.prog ED32 77 [0, 1, 6, 7, 8] (lb 77 p_short) (false :: p_short) (sh_short xs y zs r i) (hp_short xs y zs r i) =
    (bif decide ((0 : Int) ≤ i) then (bif decide ((0 : Int) ≤ i) && decide (i < (↑xs.length : Int)) then (bif inU r && inU (xs.getD i.toNat (0 : Int)) && inU y && decide (r < y) then (bif decide ((0 : Int) ≤ i) && decide (i < (↑zs.length : Int)) then (bif decide ((0 : Nat) + i.toNat * (1 : Nat) < zs.length) then (bif inR IntKind.i64 (i - (1 : Int)) then some (.normal, slots 35 [(0, (.lst false 64 xs.length (lim xs))), (1, (.val (.int .u32 y))), (6, (.sl false 64 0 0 zs.length)), (7, (.val (.int .u32 ((r * (4294967296 : Int) + xs.getD i.toNat (0 : Int)) % y)))), (8, (.val (.int .i64 (i - (1 : Int)))))], [(.row (.ints .u32 (zs.set ((0 : Nat) + i.toNat * (1 : Nat)) ((r * (4294967296 : Int) + xs.getD i.toNat (0 : Int)) / y))) 64 .live)]) else none) else none) else none) else none) else none) else some ((.exit 0), slots 35 [(0, (.lst false 64 xs.length (lim xs))), (1, (.val (.int .u32 y))), (6, (.sl false 64 0 0 zs.length)), (7, (.val (.int .u32 r))), (8, (.val (.int .i64 i)))], [(.row (.ints .u32 zs) 64 .live)])) := by kernel_rfl
theorem step_short {xs : List Int} {y : Int} {zs : List Int} {r : Int} {i : Int} {e : Ex} {T : List AV} {H : Hp} (h : roundA Try.prog ED32 77 [0, 1, 6, 7, 8] (lb 77 p_short) (false :: p_short) (sh_short xs y zs r i) (hp_short xs y zs r i) = some (e, T, H)) : V.Ends Try.prog false 0 0 (lb 77 p_short) (sh_short xs y zs r i) (hp_short xs y zs r i) e T H :=
  round_ends ED32_ok loops_none mixed code_short h
def pre_short (xs : List Int) (y : Int) (zs : List Int) (r i : Int) : Prop := okL xs ∧ okL zs ∧ zs.length = xs.length ∧ xs.length ≤ 17592186044416 ∧ inU y = true ∧ 0 < y ∧ r = 0 ∧ i = (xs.length : Int) - 1
def post_short (xs : List Int) (y : Int) (zs : List Int) (r i : Int) (q : List Int × Int × Int) : Prop := okL q.1 ∧ q.1.length = xs.length ∧ vL q.1 = vL xs / y.toNat ∧ q.2.1 = ((vL xs % y.toNat : Nat) : Int)
theorem short_go (xs : List Int) (y : Nat) (hl : okL xs) (hb : xs.length ≤ 17592186044416) (hy0 : 0 < y) (hy : y < 4294967296) (d : Nat) : ∀ (r : Nat) (out : List Int), d ≤ xs.length → okL out → out.length = xs.length → r < y → Aside0 (vL (out.drop d) * y + r = vL (xs.drop d)) →
    ∃ q : List Int × Int × Int, LoopTo Try.prog (lb 77 p_short) (sh_short xs y out r ((d : Int) - 1)) (hp_short xs y out r ((d : Int) - 1)) (.exit 0) (sh_short xs y q.1 q.2.1 q.2.2) (hp_short xs y q.1 q.2.1 q.2.2) ∧ okL q.1 ∧ q.1.length = xs.length ∧ vL q.1 = vL xs / y ∧ q.2.1 = ((vL xs % y : Nat) : Int) := by
  induction d with
  | zero =>
    intro r out hd hok hlen hr hv
    refine ⟨(out, (r : Int), ((0 : Nat) : Int) - 1), .last (step_short ?_) (by intro h; cases h), hok, hlen, ?_, ?_⟩
    · rw [round_short]; rfl
    · have hv := hv.out
      rw [List.drop_zero, List.drop_zero] at hv
      show vL out = _
      rw [← hv, Nat.mul_comm, Nat.mul_add_div hy0, Nat.div_eq_of_lt hr]; simp
    · have hv := hv.out
      rw [List.drop_zero, List.drop_zero] at hv
      show (r : Int) = _
      rw [← hv, Nat.mul_comm, Nat.mul_add_mod, Nat.mod_eq_of_lt hr]
  | succ d ih =>
    intro r out hd hok hlen hr HV
    have hdl : d < xs.length := by omega
    have hdo : d < out.length := by omega
    obtain ⟨a, ha, hea, hra⟩ := getD_limb hl d hdl
    have hq : (r * 4294967296 + a) / y < 4294967296 := by
      rw [Nat.div_lt_iff_lt_mul (by omega)]
      have : (r + 1) * 4294967296 ≤ y * 4294967296 := Nat.mul_le_mul_right _ (by omega)
      omega
    have hm : (r * 4294967296 + a) % y < y := Nat.mod_lt _ hy0
    obtain ⟨q, h1, h2⟩ := ih ((r * 4294967296 + a) % y) (out.set d (((r * 4294967296 + a) / y : Nat) : Int)) (by omega) (okL_set hok _ _ (Int.natCast_nonneg _) (Int.ofNat_lt.2 hq)) (by rw [List.length_set]; exact hlen) hm (by
      constructor
      rw [List.drop_eq_getElem_cons (l := out.set d _) (by simpa using hdo), List.getElem_set_self, List.drop_set_of_lt (by omega), List.drop_eq_getElem_cons hdl, hea, vL_cons, vL_cons, Int.toNat_natCast, Int.toNat_natCast, ← HV.out]
      have h1 := Nat.div_add_mod (r * 4294967296 + a) y
      generalize (r * 4294967296 + a) / y = q at *
      generalize (r * 4294967296 + a) % y = m at *
      grind)
    refine ⟨q, .more (step_short ?_) h1, h2⟩
    clear h1 h2 ih HV
    have hr2 := round_short xs y out r (d : Int)
    rw [Int.toNat_natCast, hra, inU_in ha, inU_in hy, inU_in (show r < 4294967296 by omega), Nat.zero_add, Nat.mul_one, dT (show (0 : Int) ≤ (d : Int) by omega), dT (show (d : Int) < (xs.length : Int) by omega), dT (show (d : Int) < (out.length : Int) by omega), dT hdo, dT (show (r : Int) < y by omega), i64T (show -9223372036854775808 ≤ (d : Int) - 1 ∧ (d : Int) - 1 ≤ 9223372036854775807 by omega)] at hr2
    rw [show ((d + 1 : Nat) : Int) - 1 = (d : Int) by omega, hr2]
    unfold sh_short hp_short
    rw [List.length_set]
    rfl
theorem loop_short (xs : List Int) (y : Int) (zs : List Int) (r i : Int) (h : pre_short xs y zs r i) : ∃ q : List Int × Int × Int, LoopTo Try.prog (lb 77 p_short) (sh_short xs y zs r i) (hp_short xs y zs r i) (.exit 0) (sh_short xs y q.1 q.2.1 q.2.2) (hp_short xs y q.1 q.2.1 q.2.2) ∧ post_short xs y zs r i q := by
  obtain ⟨h1, h2, h3, h4, h5, h6, rfl, rfl⟩ := h
  obtain ⟨y, hy, rfl⟩ := inU_out h5
  unfold post_short
  rw [Int.toNat_natCast]
  exact short_go xs y h1 h4 (by omega) hy xs.length 0 zs (Nat.le_refl _) h2 h3 (by omega) ⟨by rw [List.drop_of_length_le (by omega), List.drop_of_length_le (Nat.le_refl _)]; simp [vL_nil]⟩
def told_short (κ : List Int → Int → List Int → Int → Int → Bool) (φ : List Int → Int → List Int → Int → Int → List Int × Int × Int) (T : List AV) (H : Hp) : Option (Bool × Ex × List AV × Hp) :=
  match lget T 0, lget T 1, lget T 6, lget T 7, lget T 8, H with
  | .lst false 64 m_xs f_xs, .val (.int .u32 y), .sl false 64 0 0 m_zs, .val (.int .u32 r), .val (.int .i64 i), [.row (.ints .u32 zs) 64 .live] => bif T.length == 35 then some (okB m_xs f_xs && decide (m_zs = zs.length) && κ (rowOf m_xs f_xs) y zs r i, .exit 0, sh_short (rowOf m_xs f_xs) y ((φ (rowOf m_xs f_xs) y zs r i).1) ((φ (rowOf m_xs f_xs) y zs r i).2.1) ((φ (rowOf m_xs f_xs) y zs r i).2.2), hp_short (rowOf m_xs f_xs) y ((φ (rowOf m_xs f_xs) y zs r i).1) ((φ (rowOf m_xs f_xs) y zs r i).2.1) ((φ (rowOf m_xs f_xs) y zs r i).2.2)) else none
  | _, _, _, _, _, _ => none
abbrev KT_short : Type := List Int → Int → List Int → Int → Int → Bool
abbrev FT_short : Type := List Int → Int → List Int → Int → Int → List Int × Int × Int
def LL_short (κ : KT_short) (φ : FT_short) (L : LTab) : LTab := addLn 0 77 p_short [0, 1, 6, 7, 8] (told_short κ φ) L
def phi_short (xs : List Int) (y : Int) (zs : List Int) (r : Int) (i : Int) : List Int × Int × Int := Classical.epsilon fun ρ => LoopTo Try.prog (lb 77 p_short) (sh_short xs y zs r i) (hp_short xs y zs r i) (.exit 0) (sh_short xs y (ρ.1) (ρ.2.1) (ρ.2.2)) (hp_short xs y (ρ.1) (ρ.2.1) (ρ.2.2)) ∧ post_short xs y zs r i ρ
theorem phi_short_spec (xs : List Int) (y : Int) (zs : List Int) (r : Int) (i : Int) (h : pre_short xs y zs r i) : LoopTo Try.prog (lb 77 p_short) (sh_short xs y zs r i) (hp_short xs y zs r i) (.exit 0) (sh_short xs y ((phi_short xs y zs r i).1) ((phi_short xs y zs r i).2.1) ((phi_short xs y zs r i).2.2)) (hp_short xs y ((phi_short xs y zs r i).1) ((phi_short xs y zs r i).2.1) ((phi_short xs y zs r i).2.2)) ∧ post_short xs y zs r i (phi_short xs y zs r i) := Classical.epsilon_spec (loop_short xs y zs r i h)
def cond_short (xs : List Int) (y : Int) (zs : List Int) (r : Int) (i : Int) : Bool := @decide (pre_short xs y zs r i) (Classical.propDecidable _)
theorem cond_short_eq (xs : List Int) (y : Int) (zs : List Int) (r : Int) (i : Int) (h : pre_short xs y zs r i) : cond_short xs y zs r i = true := @decide_eq_true _ (Classical.propDecidable _) h
theorem told_short_ok (T : List AV) (H : Hp) (e : Ex) (T1 : List AV) (H1 : Hp) (h : told_short cond_short phi_short T H = some (true, e, T1, H1)) : V.Ends Try.prog false 0 0 (.loop (lb 77 p_short)) T H e T1 H1 := by
  unfold told_short at h
  split at h
  · rename_i m_xs f_xs y m_zs r i zs h0 h1 h6 h7 h8
    rw [Bool.cond_eq_ite] at h
    split at h
    · rename_i hlen
      rw [beq_iff_eq] at hlen
      simp only [Option.some.injEq, Prod.mk.injEq, Bool.and_eq_true, decide_eq_true_eq] at h
      obtain ⟨⟨⟨k1, k2⟩, k3⟩, rfl, rfl, rfl⟩ := h
      have kc := @of_decide_eq_true _ (Classical.propDecidable _) k3
      refine Ends.pre (phi_short_spec (rowOf m_xs f_xs) y zs r i kc).1.ends (fun α B w D ys hr => slots_rel hlen (fun p hp y hy => ?_) hr)
      simp only [List.mem_cons, List.not_mem_nil, or_false] at hp
      rcases hp with rfl | rfl | rfl | rfl | rfl
      · rw [h0] at hy; rw [rowOf_len]; exact row_norm cells64 k1 hy
      · rw [h1] at hy; exact hy
      · rw [h6] at hy; rw [← k2]; exact hy
      · rw [h7] at hy; exact hy
      · rw [h8] at hy; exact hy
    · cases h
  · cases h
theorem LL_short_ok {L : LTab} (h : LOk Try.prog L) : LOk Try.prog (LL_short cond_short phi_short L) := h.add2n body_short told_short_ok
def ESh (S : Sg) (κ : KT_short) (φ : FT_short) : Env := ⟨CT S, Kall, LL_short κ φ noL⟩
theorem short_call (S : Sg) (κ : KT_short) (φ : FT_short) (xs : List Int) (y : Int) : callA Try.prog (ESh S κ φ) 10 10 77 [.lst false 64 xs.length (lim xs), .val (.int .u32 y)] =
    (bif decide ((↑xs.length : Int) ≤ (↑xs.length : Int)) && decide ((4 : Int) * (↑xs.length : Int) ≤ (281474976710656 : Int)) && decide ((↑xs.length : Int) ≤ (9223372036854775807 : Int)) then (bif inR IntKind.i64 ((↑xs.length : Int) - (1 : Int)) then (bif okB xs.length (lim xs) && decide ((↑xs.length : Int).toNat = (List.replicate (↑xs.length : Int).toNat (0 : Int)).length) && κ (rowOf xs.length (lim xs)) y (List.replicate (↑xs.length : Int).toNat (0 : Int)) (0 : Int) ((↑xs.length : Int) - (1 : Int)) then (bif decide ((0 : Nat) + (φ (rowOf xs.length (lim xs)) y (List.replicate (↑xs.length : Int).toNat (0 : Int)) (0 : Int) ((↑xs.length : Int) - (1 : Int))).fst.length * (1 : Nat) ≤ (φ (rowOf xs.length (lim xs)) y (List.replicate (↑xs.length : Int).toNat (0 : Int)) (0 : Int) ((↑xs.length : Int) - (1 : Int))).fst.length) then (bif S.okr (φ (rowOf xs.length (lim xs)) y (List.replicate (↑xs.length : Int).toNat (0 : Int)) (0 : Int) ((↑xs.length : Int) - (1 : Int))).fst.length (lim (φ (rowOf xs.length (lim xs)) y (List.replicate (↑xs.length : Int).toNat (0 : Int)) (0 : Int) ((↑xs.length : Int) - (1 : Int))).fst) then some (.tup [(.lst false 64 (S.len (S.num (φ (rowOf xs.length (lim xs)) y (List.replicate (↑xs.length : Int).toNat (0 : Int)) (0 : Int) ((↑xs.length : Int) - (1 : Int))).fst.length (lim (φ (rowOf xs.length (lim xs)) y (List.replicate (↑xs.length : Int).toNat (0 : Int)) (0 : Int) ((↑xs.length : Int) - (1 : Int))).fst))) (S.row (S.num (φ (rowOf xs.length (lim xs)) y (List.replicate (↑xs.length : Int).toNat (0 : Int)) (0 : Int) ((↑xs.length : Int) - (1 : Int))).fst.length (lim (φ (rowOf xs.length (lim xs)) y (List.replicate (↑xs.length : Int).toNat (0 : Int)) (0 : Int) ((↑xs.length : Int) - (1 : Int))).fst)))), (.val (.int .u32 ((φ (rowOf xs.length (lim xs)) y (List.replicate (↑xs.length : Int).toNat (0 : Int)) (0 : Int) ((↑xs.length : Int) - (1 : Int))).snd.fst)))]) else none) else none) else none) else none) else none) := by kernel_rfl
def tShort (S : Sg) (args : List AV) : Option (Bool × AV) := match args with | [.lst _ 64 m f, .val (.int .u32 y)] => some (S.okr m f && inU y && decide (0 < y), .tup [S.lmb (S.num m f / y.toNat), .val (.int .u32 ((S.num m f % y.toNat : Nat) : Int))]) | _ => none
theorem eShort : Entry Try.prog 77 (tShort sg0) := by
  refine entry_to (E := ESh sg0 cond_short phi_short) (u := 10) (d := 10) CT_ok (LL_short_ok LOk.none).ok (by kernel_rfl) (fun args r h => ?_)
  unfold tShort at h
  split at h
  · rename_i fl m f y
    simp only [Option.some.injEq, Prod.mk.injEq, Bool.and_eq_true, decide_eq_true_eq] at h
    obtain ⟨⟨⟨h1, h2⟩, h3⟩, rfl⟩ := h
    obtain ⟨a1, a2, a3, a4⟩ := okr_out h1
    have hp : pre_short (rowOf m f) y (List.replicate (rowOf m f).length 0) 0 ((rowOf m f).length - 1) := ⟨a2, okL_replicate _, by simp, a3, h2, h3, rfl, rfl⟩
    obtain ⟨_, c1, c2, c3, c4⟩ := phi_short_spec _ _ _ _ _ hp
    have hcall := short_call sg0 cond_short phi_short (rowOf m f) y
    simp only [rowOf_lim', Nat.mul_one, Nat.zero_add, Int.toNat_natCast, List.length_replicate, eq_self, decide_true] at hcall
    rw [cond_short_eq _ _ _ _ _ hp] at hcall
    generalize phi_short (rowOf m f) y (List.replicate (rowOf m f).length 0) 0 ((rowOf m f).length - 1) = q at *
    rw [okB_lim a2, dT (show ((rowOf m f).length : Int) ≤ ((rowOf m f).length : Int) by omega), dT (show (4 : Int) * ((rowOf m f).length : Int) ≤ 281474976710656 by omega), dT (show ((rowOf m f).length : Int) ≤ 9223372036854775807 by omega), i64T (show -9223372036854775808 ≤ ((rowOf m f).length : Int) - 1 ∧ ((rowOf m f).length : Int) - 1 ≤ 9223372036854775807 by omega), dT (show q.1.length ≤ q.1.length by omega), okr_lim c1 (by omega), num_lim, c3, c4] at hcall
    refine ⟨_, _, hcall, fun B w ys hr => ?_, fun B w y hr => by rw [a4]; exact hr⟩
    obtain ⟨y, zs, rfl, q1, q2⟩ := hr
    exact ⟨y, _, rfl, norm_row a1 q1, q2⟩
  · cases h
end
end Go.Proofs.Ytlpfnbopmigefaa.L

/- Shift and unshift, told. -/
set_option linter.unusedVariables false
set_option linter.unusedSimpArgs false
namespace Go.Proofs.Ytlpfnbopmigefaa.L
open Go Go.V Go.RowKit Go.Proofs.Ytlpfnbopmigefaa.Sp Go.Proofs.Ytlpfnbopmigefaa.F Go.Proofs.YtlpfnbopmigefaaW.PrintWords
open Go.Proofs (Try.prog)
noncomputable section
theorem shl_u64 (a n : Nat) (ha : a < 4294967296) (hn : n < 32) : IntKind.u64.wrap ((a : Int) * 2 ^ min ((n : Int).toNat) 64) = ((a * 2 ^ n : Nat) : Int) := by
  have h := (shl64 a n ha hn).1
  unfold shl at h
  rw [u64n (by omega)] at h
  exact h
theorem or_u32 (c a n : Nat) (hc : c < 2 ^ n) (hn : n < 32) : bitI .or .u32 (c : Int) (((a * 2 ^ n % 4294967296 : Nat)) : Int) = ((c + a * 2 ^ n % 4294967296 : Nat) : Int) := (shift_or c a n hc hn).1
abbrev p_shift0 : List Bool := [false, true, false, true, true]
def sh_shift0 (k : Int) (zs : List Int) (xs : List Int) (n : Int) (i : Int) : List AV := slots 41 [(1, .val (.int .i64 k)), (5, .sl false 64 0 0 zs.length), (13, .lst false 64 xs.length (lim xs)), (14, .val (.int .i64 n)), (15, .val (.int .i64 i))]
def hp_shift0 (k : Int) (zs : List Int) (xs : List Int) (n : Int) (i : Int) : Hp := [.row (.ints .u32 zs) 64 .live]
theorem body_shift0 : subC Try.prog 79 p_shift0 = some (.loop (lb 79 p_shift0)) := by kernel_rfl
theorem code_shift0 : subC Try.prog 79 (false :: p_shift0) = some (lb 79 p_shift0) := by kernel_rfl
theorem round_shift0  (k : Int) (zs : List Int) (xs : List Int) (n : Int) (i : Int) : roundA Try.prog EL0 79 [1, 5, 13, 14, 15] (lb 79 p_shift0) (false :: p_shift0) (sh_shift0 k zs xs n i) (hp_shift0 k zs xs n i) =
    (bif decide (i < n) then (bif decide ((0 : Int) ≤ i) && decide (i < (↑xs.length : Int)) then (bif inR IntKind.u64 (xs.getD i.toNat (0 : Int)) then (bif decide (k < (0 : Int)) then none else (bif decide ((0 : Int) ≤ i) && decide (i < (↑zs.length : Int)) then (bif decide ((0 : Nat) + i.toNat * (1 : Nat) < zs.length) then (bif decide ((0 : Int) ≤ i) && decide (i < (↑zs.length : Int)) then (bif decide ((0 : Nat) + i.toNat * (1 : Nat) < zs.length) then (bif inR IntKind.i64 (i + (1 : Int)) then (bif decide ((0 : Int) ≤ i + (1 : Int)) && decide (i + (1 : Int) < (↑zs.length : Int)) then (bif decide ((0 : Nat) + (i + (1 : Int)).toNat * (1 : Nat) < (zs.set ((0 : Nat) + i.toNat * (1 : Nat)) (bitI BinOp.or IntKind.u32 (zs.getD ((0 : Nat) + i.toNat * (1 : Nat)) (0 : Int)) (IntKind.u32.wrap (IntKind.u64.wrap (xs.getD i.toNat (0 : Int) * (2 : Int) ^ min k.toNat (64 : Nat)))))).length) then (bif inR IntKind.i64 (i + (1 : Int)) then some (.normal, slots 41 [(1, (.val (.int .i64 k))), (5, (.sl false 64 0 0 zs.length)), (13, (.lst false 64 xs.length (lim xs))), (14, (.val (.int .i64 n))), (15, (.val (.int .i64 (i + (1 : Int)))))], [(.row (.ints .u32 ((zs.set ((0 : Nat) + i.toNat * (1 : Nat)) (bitI BinOp.or IntKind.u32 (zs.getD ((0 : Nat) + i.toNat * (1 : Nat)) (0 : Int)) (IntKind.u32.wrap (IntKind.u64.wrap (xs.getD i.toNat (0 : Int) * (2 : Int) ^ min k.toNat (64 : Nat)))))).set ((0 : Nat) + (i + (1 : Int)).toNat * (1 : Nat)) (IntKind.u32.wrap ((IntKind.u64.wrap (xs.getD i.toNat (0 : Int) * (2 : Int) ^ min k.toNat (64 : Nat))).fdiv (4294967296 : Int))))) 64 .live)]) else none) else none) else none) else none) else none) else none) else none) else none)) else none) else none) else some ((.exit 0), slots 41 [(1, (.val (.int .i64 k))), (5, (.sl false 64 0 0 zs.length)), (13, (.lst false 64 xs.length (lim xs))), (14, (.val (.int .i64 n))), (15, (.val (.int .i64 i)))], [(.row (.ints .u32 zs) 64 .live)])) := by kernel_rfl
theorem step_shift0 {k : Int} {zs : List Int} {xs : List Int} {n : Int} {i : Int} {e : Ex} {T : List AV} {H : Hp} (h : roundA Try.prog EL0 79 [1, 5, 13, 14, 15] (lb 79 p_shift0) (false :: p_shift0) (sh_shift0 k zs xs n i) (hp_shift0 k zs xs n i) = some (e, T, H)) : V.Ends Try.prog false 0 0 (lb 79 p_shift0) (sh_shift0 k zs xs n i) (hp_shift0 k zs xs n i) e T H :=
  round_ends (meets_none _) loops_none mixed code_shift0 h
def pre_shift0 (k : Int) (zs xs : List Int) (n i : Int) : Prop := okL xs ∧ okL zs ∧ zs = List.replicate (xs.length + 1) 0 ∧ xs.length ≤ 17592186044415 ∧ n = xs.length ∧ i = 0 ∧ ∃ a : Nat, k = a ∧ a < 32
def post_shift0 (k : Int) (zs xs : List Int) (n i : Int) (q : List Int × Int) : Prop := okL q.1 ∧ q.1.length = xs.length + 1 ∧ vL q.1 = 2 ^ k.toNat * vL xs
theorem shift0_go (k : Nat) (xs : List Int) (hl : okL xs) (hb : xs.length ≤ 17592186044415) (hn : k < 32) (d : Nat) : ∀ (i c : Nat) (out : List Int), i + d = xs.length → okL out → out.length = xs.length + 1 → (∃ h : i < out.length, out[i] = (c : Int)) → c < 2 ^ k →
    Aside0 (vL (out.take i) + 4294967296 ^ i * c = 2 ^ k * vL (xs.take i)) →
    ∃ q : List Int × Int, LoopTo Try.prog (lb 79 p_shift0) (sh_shift0 k out xs xs.length i) (hp_shift0 k out xs xs.length i) (.exit 0) (sh_shift0 k q.1 xs xs.length q.2) (hp_shift0 k q.1 xs xs.length q.2) ∧ okL q.1 ∧ q.1.length = xs.length + 1 ∧ vL q.1 = 2 ^ k * vL xs := by
  induction d with
  | zero =>
    intro i c out hi hok hlen hcc hc hv
    obtain ⟨hio, hcc⟩ := hcc
    have hi' : i = xs.length := by omega
    refine ⟨(out, (i : Int)), .last (step_shift0 ?_) (by intro h; cases h), hok, hlen, ?_⟩
    · rw [round_shift0, dF (show ¬ ((i : Int) < xs.length) by omega)]
      rfl
    · have h1 := vL_take_succ out i hio
      rw [List.take_of_length_le (by omega), hcc, Int.toNat_natCast, hv.out, List.take_of_length_le (by omega)] at h1
      exact h1
  | succ d ih =>
    intro i c out hi hok hlen hcc hc HV
    obtain ⟨hio, hcc⟩ := hcc
    have hil : i < xs.length := by omega
    have hi1 : i + 1 < out.length := by omega
    obtain ⟨a, ha, hea, hra⟩ := getD_limb hl i hil
    have hro : out.getD i 0 = (c : Int) := by rw [List.getD_eq_getElem?_getD, List.getElem?_eq_getElem hio, Option.getD_some, hcc]
    have HT := Aside0.mk (vL_take_succ xs i hil)
    rw [hea, Int.toNat_natCast] at HT
    have hsh := shl_u64 a k ha hn
    have hsl := (shl64 a k ha hn).2
    have hor := or_u32 c a k hc hn
    have hol := (shift_or c a k hc hn).2
    have hdiv : a * 2 ^ k / 4294967296 < 2 ^ k := by
      rw [Nat.div_lt_iff_lt_mul (by decide), Nat.mul_comm (2 ^ k)]; exact hsl
    have h2n : (2 : Nat) ^ k ≤ 2 ^ 31 := Nat.pow_le_pow_right (by decide) (by omega)
    have h31 : (2 : Nat) ^ 31 = 2147483648 := rfl
    obtain ⟨q, h1, h2⟩ := ih (i + 1) (a * 2 ^ k / 4294967296) ((out.set i ((c + a * 2 ^ k % 4294967296 : Nat) : Int)).set (i + 1) ((a * 2 ^ k / 4294967296 : Nat) : Int)) (by omega)
      (okL_set (okL_set hok _ _ (Int.natCast_nonneg _) (Int.ofNat_lt.2 hol)) _ _ (Int.natCast_nonneg _) (by generalize a * 2 ^ k / 4294967296 = z at *; omega)) (by simp [hlen]) ⟨by rw [List.length_set, List.length_set]; exact hi1, List.getElem_set_self _⟩ hdiv (by
      constructor
      rw [List.take_set_of_le (Nat.le_refl _), take_set_succ _ _ hio, vL_snoc, List.length_take, Nat.min_eq_left (by omega), HT.out, Int.toNat_natCast, Nat.pow_succ]
      have hv := HV.out
      have e2 : 4294967296 ^ i * (a * 2 ^ k % 4294967296) + 4294967296 ^ i * 4294967296 * (a * 2 ^ k / 4294967296) = 4294967296 ^ i * (a * 2 ^ k) := by
        rw [Nat.mul_assoc, ← Nat.mul_add, Nat.mod_add_div]
      rw [Nat.mul_add, ← Nat.add_assoc, hv, Nat.add_assoc, e2]
      grind)
    refine ⟨q, .more (step_shift0 ?_) h1, h2⟩
    clear h1 h2 ih HV HT
    have hr := round_shift0 k out xs xs.length i
    have e1 : (i : Int) + 1 = ((i + 1 : Nat) : Int) := by omega
    generalize hz : a * 2 ^ k / 4294967296 = z at *
    have hz2 : z % 4294967296 = z := Nat.mod_eq_of_lt (by omega)
    simp only [e1, Int.toNat_natCast, Nat.zero_add, Nat.mul_one] at hr
    simp only [Int.toNat_natCast] at hsh
    rw [hra, hro, hsh, u32w, hor, fdiv32, hz, u32w, hz2, List.length_set, u64T (show 0 ≤ (a : Int) ∧ (a : Int) ≤ 18446744073709551615 by omega), i64L _ (by omega), dT (show (i : Int) < (xs.length : Int) by omega), dT (show (0 : Int) ≤ (i : Int) by omega), dT (show (i : Int) < (out.length : Int) by omega), dT hio, dF (show ¬ (k : Int) < 0 by omega), dT (show (0 : Int) ≤ ((i + 1 : Nat) : Int) by omega), dT (show ((i + 1 : Nat) : Int) < (out.length : Int) by omega), dT hi1] at hr
    rw [hr]
    unfold sh_shift0 hp_shift0
    rw [List.length_set, List.length_set]
    rfl
theorem loop_shift0 (k : Int) (zs xs : List Int) (n i : Int) (h : pre_shift0 k zs xs n i) : ∃ q : List Int × Int, LoopTo Try.prog (lb 79 p_shift0) (sh_shift0 k zs xs n i) (hp_shift0 k zs xs n i) (.exit 0) (sh_shift0 k q.1 xs n q.2) (hp_shift0 k q.1 xs n q.2) ∧ post_shift0 k zs xs n i q := by
  obtain ⟨h1, h2, rfl, h4, rfl, rfl, a, rfl, ha⟩ := h
  unfold post_shift0
  rw [Int.toNat_natCast]
  exact shift0_go a xs h1 h4 ha xs.length 0 0 _ (by omega) (okL_replicate _) (by simp) ⟨by simp, by simp⟩ (Nat.two_pow_pos a) ⟨by simp [vL_nil]⟩
def told_shift0 (κ : Int → List Int → List Int → Int → Int → Bool) (φ : Int → List Int → List Int → Int → Int → List Int × Int) (T : List AV) (H : Hp) : Option (Bool × Ex × List AV × Hp) :=
  match lget T 1, lget T 5, lget T 13, lget T 14, lget T 15, H with
  | .val (.int .i64 k), .sl false 64 0 0 m_zs, .lst false 64 m_xs f_xs, .val (.int .i64 n), .val (.int .i64 i), [.row (.ints .u32 zs) 64 .live] => bif T.length == 41 then some (okB m_xs f_xs && decide (m_zs = zs.length) && κ k zs (rowOf m_xs f_xs) n i, .exit 0, sh_shift0 k ((φ k zs (rowOf m_xs f_xs) n i).1) (rowOf m_xs f_xs) n ((φ k zs (rowOf m_xs f_xs) n i).2), hp_shift0 k ((φ k zs (rowOf m_xs f_xs) n i).1) (rowOf m_xs f_xs) n ((φ k zs (rowOf m_xs f_xs) n i).2)) else none
  | _, _, _, _, _, _ => none
abbrev KT_shift0 : Type := Int → List Int → List Int → Int → Int → Bool
abbrev FT_shift0 : Type := Int → List Int → List Int → Int → Int → List Int × Int
def LL_shift0 (κ : KT_shift0) (φ : FT_shift0) (L : LTab) : LTab := addLn 0 79 p_shift0 [1, 5, 13, 14, 15] (told_shift0 κ φ) L
def phi_shift0 (k : Int) (zs : List Int) (xs : List Int) (n : Int) (i : Int) : List Int × Int := Classical.epsilon fun ρ => LoopTo Try.prog (lb 79 p_shift0) (sh_shift0 k zs xs n i) (hp_shift0 k zs xs n i) (.exit 0) (sh_shift0 k (ρ.1) xs n (ρ.2)) (hp_shift0 k (ρ.1) xs n (ρ.2)) ∧ post_shift0 k zs xs n i ρ
theorem phi_shift0_spec (k : Int) (zs : List Int) (xs : List Int) (n : Int) (i : Int) (h : pre_shift0 k zs xs n i) : LoopTo Try.prog (lb 79 p_shift0) (sh_shift0 k zs xs n i) (hp_shift0 k zs xs n i) (.exit 0) (sh_shift0 k ((phi_shift0 k zs xs n i).1) xs n ((phi_shift0 k zs xs n i).2)) (hp_shift0 k ((phi_shift0 k zs xs n i).1) xs n ((phi_shift0 k zs xs n i).2)) ∧ post_shift0 k zs xs n i (phi_shift0 k zs xs n i) := Classical.epsilon_spec (loop_shift0 k zs xs n i h)
def cond_shift0 (k : Int) (zs : List Int) (xs : List Int) (n : Int) (i : Int) : Bool := @decide (pre_shift0 k zs xs n i) (Classical.propDecidable _)
theorem cond_shift0_eq (k : Int) (zs : List Int) (xs : List Int) (n : Int) (i : Int) (h : pre_shift0 k zs xs n i) : cond_shift0 k zs xs n i = true := @decide_eq_true _ (Classical.propDecidable _) h
theorem told_shift0_ok (T : List AV) (H : Hp) (e : Ex) (T1 : List AV) (H1 : Hp) (h : told_shift0 cond_shift0 phi_shift0 T H = some (true, e, T1, H1)) : V.Ends Try.prog false 0 0 (.loop (lb 79 p_shift0)) T H e T1 H1 := by
  unfold told_shift0 at h
  split at h
  · rename_i k m_zs m_xs f_xs n i zs h1 h5 h13 h14 h15
    rw [Bool.cond_eq_ite] at h
    split at h
    · rename_i hlen
      rw [beq_iff_eq] at hlen
      simp only [Option.some.injEq, Prod.mk.injEq, Bool.and_eq_true, decide_eq_true_eq] at h
      obtain ⟨⟨⟨k1, k2⟩, k3⟩, rfl, rfl, rfl⟩ := h
      have kc := @of_decide_eq_true _ (Classical.propDecidable _) k3
      refine Ends.pre (phi_shift0_spec k zs (rowOf m_xs f_xs) n i kc).1.ends (fun α B w D ys hr => slots_rel hlen (fun p hp y hy => ?_) hr)
      simp only [List.mem_cons, List.not_mem_nil, or_false] at hp
      rcases hp with rfl | rfl | rfl | rfl | rfl
      · rw [h1] at hy; exact hy
      · rw [h5] at hy; rw [← k2]; exact hy
      · rw [h13] at hy; rw [rowOf_len]; exact row_norm cells64 k1 hy
      · rw [h14] at hy; exact hy
      · rw [h15] at hy; exact hy
    · cases h
  · cases h
theorem LL_shift0_ok {L : LTab} (h : LOk Try.prog L) : LOk Try.prog (LL_shift0 cond_shift0 phi_shift0 L) := h.add2n body_shift0 told_shift0_ok
abbrev p_shift1 : List Bool := [false, true, false, true, true]
def sh_shift1 (k : Int) (zs : List Int) (xs : List Int) (n : Int) (i : Int) (us : List Int) : List AV := slots 41 [(1, .val (.int .i64 k)), (5, .sl false 64 1 0 zs.length), (13, .lst false 64 xs.length (lim xs)), (14, .val (.int .i64 n)), (15, .val (.int .i64 i))]
def hp_shift1 (k : Int) (zs : List Int) (xs : List Int) (n : Int) (i : Int) (us : List Int) : Hp := [.row (.ints .u32 us) 64 .live, .row (.ints .u32 zs) 64 .live]
theorem body_shift1 : subC Try.prog 79 p_shift1 = some (.loop (lb 79 p_shift1)) := by kernel_rfl
theorem code_shift1 : subC Try.prog 79 (false :: p_shift1) = some (lb 79 p_shift1) := by kernel_rfl
theorem round_shift1  (k : Int) (zs : List Int) (xs : List Int) (n : Int) (i : Int) (us : List Int) : roundB Try.prog EL0 1 79 [1, 5, 13, 14, 15] (lb 79 p_shift1) (false :: p_shift1) (sh_shift1 k zs xs n i us) (hp_shift1 k zs xs n i us) =
    (bif decide (i < n) then (bif decide ((0 : Int) ≤ i) && decide (i < (↑xs.length : Int)) then (bif inR IntKind.u64 (xs.getD i.toNat (0 : Int)) then (bif decide (k < (0 : Int)) then none else (bif decide ((0 : Int) ≤ i) && decide (i < (↑zs.length : Int)) then (bif decide ((0 : Nat) + i.toNat * (1 : Nat) < zs.length) then (bif decide ((0 : Int) ≤ i) && decide (i < (↑zs.length : Int)) then (bif decide ((0 : Nat) + i.toNat * (1 : Nat) < zs.length) then (bif inR IntKind.i64 (i + (1 : Int)) then (bif decide ((0 : Int) ≤ i + (1 : Int)) && decide (i + (1 : Int) < (↑zs.length : Int)) then (bif decide ((0 : Nat) + (i + (1 : Int)).toNat * (1 : Nat) < (zs.set ((0 : Nat) + i.toNat * (1 : Nat)) (bitI BinOp.or IntKind.u32 (zs.getD ((0 : Nat) + i.toNat * (1 : Nat)) (0 : Int)) (IntKind.u32.wrap (IntKind.u64.wrap (xs.getD i.toNat (0 : Int) * (2 : Int) ^ min k.toNat (64 : Nat)))))).length) then (bif inR IntKind.i64 (i + (1 : Int)) then some (.normal, slots 41 [(1, (.val (.int .i64 k))), (5, (.sl false 64 1 0 zs.length)), (13, (.lst false 64 xs.length (lim xs))), (14, (.val (.int .i64 n))), (15, (.val (.int .i64 (i + (1 : Int)))))], [(.row (.ints .u32 us) 64 .live), (.row (.ints .u32 ((zs.set ((0 : Nat) + i.toNat * (1 : Nat)) (bitI BinOp.or IntKind.u32 (zs.getD ((0 : Nat) + i.toNat * (1 : Nat)) (0 : Int)) (IntKind.u32.wrap (IntKind.u64.wrap (xs.getD i.toNat (0 : Int) * (2 : Int) ^ min k.toNat (64 : Nat)))))).set ((0 : Nat) + (i + (1 : Int)).toNat * (1 : Nat)) (IntKind.u32.wrap ((IntKind.u64.wrap (xs.getD i.toNat (0 : Int) * (2 : Int) ^ min k.toNat (64 : Nat))).fdiv (4294967296 : Int))))) 64 .live)]) else none) else none) else none) else none) else none) else none) else none) else none)) else none) else none) else some ((.exit 0), slots 41 [(1, (.val (.int .i64 k))), (5, (.sl false 64 1 0 zs.length)), (13, (.lst false 64 xs.length (lim xs))), (14, (.val (.int .i64 n))), (15, (.val (.int .i64 i)))], [(.row (.ints .u32 us) 64 .live), (.row (.ints .u32 zs) 64 .live)])) := by kernel_rfl
theorem step_shift1 {k : Int} {zs : List Int} {xs : List Int} {n : Int} {i : Int} {us : List Int} {e : Ex} {T : List AV} {H : Hp} (h : roundB Try.prog EL0 1 79 [1, 5, 13, 14, 15] (lb 79 p_shift1) (false :: p_shift1) (sh_shift1 k zs xs n i us) (hp_shift1 k zs xs n i us) = some (e, T, H)) : V.Ends Try.prog false 1 0 (lb 79 p_shift1) (sh_shift1 k zs xs n i us) (hp_shift1 k zs xs n i us) e T H :=
  round_endsB (meets_none _) loops_none mixed code_shift1 h
def pre_shift1 (k : Int) (zs xs : List Int) (n i : Int) (us : List Int) : Prop := okL xs ∧ okL zs ∧ zs = List.replicate (xs.length + 1) 0 ∧ xs.length ≤ 17592186044415 ∧ n = xs.length ∧ i = 0 ∧ ∃ a : Nat, k = a ∧ a < 32
def post_shift1 (k : Int) (zs xs : List Int) (n i : Int) (us : List Int) (q : List Int × Int) : Prop := okL q.1 ∧ q.1.length = xs.length + 1 ∧ vL q.1 = 2 ^ k.toNat * vL xs
theorem shift1_go (k : Nat) (xs : List Int) (hl : okL xs) (hb : xs.length ≤ 17592186044415) (hn : k < 32) (us : List Int) (d : Nat) : ∀ (i c : Nat) (out : List Int), i + d = xs.length → okL out → out.length = xs.length + 1 → (∃ h : i < out.length, out[i] = (c : Int)) → c < 2 ^ k →
    Aside0 (vL (out.take i) + 4294967296 ^ i * c = 2 ^ k * vL (xs.take i)) →
    ∃ q : List Int × Int, LoopToB Try.prog 1 (lb 79 p_shift1) (sh_shift1 k out xs xs.length i us) (hp_shift1 k out xs xs.length i us) (.exit 0) (sh_shift1 k q.1 xs xs.length q.2 us) (hp_shift1 k q.1 xs xs.length q.2 us) ∧ okL q.1 ∧ q.1.length = xs.length + 1 ∧ vL q.1 = 2 ^ k * vL xs := by
  induction d with
  | zero =>
    intro i c out hi hok hlen hcc hc hv
    obtain ⟨hio, hcc⟩ := hcc
    have hi' : i = xs.length := by omega
    refine ⟨(out, (i : Int)), .last (step_shift1 ?_) (by intro h; cases h), hok, hlen, ?_⟩
    · rw [round_shift1, dF (show ¬ ((i : Int) < xs.length) by omega)]
      rfl
    · have h1 := vL_take_succ out i hio
      rw [List.take_of_length_le (by omega), hcc, Int.toNat_natCast, hv.out, List.take_of_length_le (by omega)] at h1
      exact h1
  | succ d ih =>
    intro i c out hi hok hlen hcc hc HV
    obtain ⟨hio, hcc⟩ := hcc
    have hil : i < xs.length := by omega
    have hi1 : i + 1 < out.length := by omega
    obtain ⟨a, ha, hea, hra⟩ := getD_limb hl i hil
    have hro : out.getD i 0 = (c : Int) := by rw [List.getD_eq_getElem?_getD, List.getElem?_eq_getElem hio, Option.getD_some, hcc]
    have HT := Aside0.mk (vL_take_succ xs i hil)
    rw [hea, Int.toNat_natCast] at HT
    have hsh := shl_u64 a k ha hn
    have hsl := (shl64 a k ha hn).2
    have hor := or_u32 c a k hc hn
    have hol := (shift_or c a k hc hn).2
    have hdiv : a * 2 ^ k / 4294967296 < 2 ^ k := by
      rw [Nat.div_lt_iff_lt_mul (by decide), Nat.mul_comm (2 ^ k)]; exact hsl
    have h2n : (2 : Nat) ^ k ≤ 2 ^ 31 := Nat.pow_le_pow_right (by decide) (by omega)
    have h31 : (2 : Nat) ^ 31 = 2147483648 := rfl
    obtain ⟨q, h1, h2⟩ := ih (i + 1) (a * 2 ^ k / 4294967296) ((out.set i ((c + a * 2 ^ k % 4294967296 : Nat) : Int)).set (i + 1) ((a * 2 ^ k / 4294967296 : Nat) : Int)) (by omega)
      (okL_set (okL_set hok _ _ (Int.natCast_nonneg _) (Int.ofNat_lt.2 hol)) _ _ (Int.natCast_nonneg _) (by generalize a * 2 ^ k / 4294967296 = z at *; omega)) (by simp [hlen]) ⟨by rw [List.length_set, List.length_set]; exact hi1, List.getElem_set_self _⟩ hdiv (by
      constructor
      rw [List.take_set_of_le (Nat.le_refl _), take_set_succ _ _ hio, vL_snoc, List.length_take, Nat.min_eq_left (by omega), HT.out, Int.toNat_natCast, Nat.pow_succ]
      have hv := HV.out
      have e2 : 4294967296 ^ i * (a * 2 ^ k % 4294967296) + 4294967296 ^ i * 4294967296 * (a * 2 ^ k / 4294967296) = 4294967296 ^ i * (a * 2 ^ k) := by
        rw [Nat.mul_assoc, ← Nat.mul_add, Nat.mod_add_div]
      rw [Nat.mul_add, ← Nat.add_assoc, hv, Nat.add_assoc, e2]
      grind)
    refine ⟨q, .more (step_shift1 ?_) h1, h2⟩
    clear h1 h2 ih HV HT
    have hr := round_shift1 k out xs xs.length i us
    have e1 : (i : Int) + 1 = ((i + 1 : Nat) : Int) := by omega
    generalize hz : a * 2 ^ k / 4294967296 = z at *
    have hz2 : z % 4294967296 = z := Nat.mod_eq_of_lt (by omega)
    simp only [e1, Int.toNat_natCast, Nat.zero_add, Nat.mul_one] at hr
    simp only [Int.toNat_natCast] at hsh
    rw [hra, hro, hsh, u32w, hor, fdiv32, hz, u32w, hz2, List.length_set, u64T (show 0 ≤ (a : Int) ∧ (a : Int) ≤ 18446744073709551615 by omega), i64L _ (by omega), dT (show (i : Int) < (xs.length : Int) by omega), dT (show (0 : Int) ≤ (i : Int) by omega), dT (show (i : Int) < (out.length : Int) by omega), dT hio, dF (show ¬ (k : Int) < 0 by omega), dT (show (0 : Int) ≤ ((i + 1 : Nat) : Int) by omega), dT (show ((i + 1 : Nat) : Int) < (out.length : Int) by omega), dT hi1] at hr
    rw [hr]
    unfold sh_shift1 hp_shift1
    rw [List.length_set, List.length_set]
    rfl
theorem loop_shift1 (k : Int) (zs xs : List Int) (n i : Int) (us : List Int) (h : pre_shift1 k zs xs n i us) : ∃ q : List Int × Int, LoopToB Try.prog 1 (lb 79 p_shift1) (sh_shift1 k zs xs n i us) (hp_shift1 k zs xs n i us) (.exit 0) (sh_shift1 k q.1 xs n q.2 us) (hp_shift1 k q.1 xs n q.2 us) ∧ post_shift1 k zs xs n i us q := by
  obtain ⟨h1, h2, rfl, h4, rfl, rfl, a, rfl, ha⟩ := h
  unfold post_shift1
  rw [Int.toNat_natCast]
  exact shift1_go a xs h1 h4 ha us xs.length 0 0 _ (by omega) (okL_replicate _) (by simp) ⟨by simp, by simp⟩ (Nat.two_pow_pos a) ⟨by simp [vL_nil]⟩
def told_shift1 (κ : Int → List Int → List Int → Int → Int → List Int → Bool) (φ : Int → List Int → List Int → Int → Int → List Int → List Int × Int) (T : List AV) (H : Hp) : Option (Bool × Ex × List AV × Hp) :=
  match lget T 1, lget T 5, lget T 13, lget T 14, lget T 15, H with
  | .val (.int .i64 k), .sl false 64 1 0 m_zs, .lst false 64 m_xs f_xs, .val (.int .i64 n), .val (.int .i64 i), [.row (.ints .u32 us) 64 .live, .row (.ints .u32 zs) 64 .live] => bif T.length == 41 then some (okB m_xs f_xs && decide (m_zs = zs.length) && κ k zs (rowOf m_xs f_xs) n i us, .exit 0, sh_shift1 k ((φ k zs (rowOf m_xs f_xs) n i us).1) (rowOf m_xs f_xs) n ((φ k zs (rowOf m_xs f_xs) n i us).2) us, hp_shift1 k ((φ k zs (rowOf m_xs f_xs) n i us).1) (rowOf m_xs f_xs) n ((φ k zs (rowOf m_xs f_xs) n i us).2) us) else none
  | _, _, _, _, _, _ => none
abbrev KT_shift1 : Type := Int → List Int → List Int → Int → Int → List Int → Bool
abbrev FT_shift1 : Type := Int → List Int → List Int → Int → Int → List Int → List Int × Int
def LL_shift1 (κ : KT_shift1) (φ : FT_shift1) (L : LTab) : LTab := addLn 1 79 p_shift1 [1, 5, 13, 14, 15] (told_shift1 κ φ) L
def phi_shift1 (k : Int) (zs : List Int) (xs : List Int) (n : Int) (i : Int) (us : List Int) : List Int × Int := Classical.epsilon fun ρ => LoopToB Try.prog 1 (lb 79 p_shift1) (sh_shift1 k zs xs n i us) (hp_shift1 k zs xs n i us) (.exit 0) (sh_shift1 k (ρ.1) xs n (ρ.2) us) (hp_shift1 k (ρ.1) xs n (ρ.2) us) ∧ post_shift1 k zs xs n i us ρ
theorem phi_shift1_spec (k : Int) (zs : List Int) (xs : List Int) (n : Int) (i : Int) (us : List Int) (h : pre_shift1 k zs xs n i us) : LoopToB Try.prog 1 (lb 79 p_shift1) (sh_shift1 k zs xs n i us) (hp_shift1 k zs xs n i us) (.exit 0) (sh_shift1 k ((phi_shift1 k zs xs n i us).1) xs n ((phi_shift1 k zs xs n i us).2) us) (hp_shift1 k ((phi_shift1 k zs xs n i us).1) xs n ((phi_shift1 k zs xs n i us).2) us) ∧ post_shift1 k zs xs n i us (phi_shift1 k zs xs n i us) := Classical.epsilon_spec (loop_shift1 k zs xs n i us h)
def cond_shift1 (k : Int) (zs : List Int) (xs : List Int) (n : Int) (i : Int) (us : List Int) : Bool := @decide (pre_shift1 k zs xs n i us) (Classical.propDecidable _)
theorem cond_shift1_eq (k : Int) (zs : List Int) (xs : List Int) (n : Int) (i : Int) (us : List Int) (h : pre_shift1 k zs xs n i us) : cond_shift1 k zs xs n i us = true := @decide_eq_true _ (Classical.propDecidable _) h
theorem told_shift1_ok (T : List AV) (H : Hp) (e : Ex) (T1 : List AV) (H1 : Hp) (h : told_shift1 cond_shift1 phi_shift1 T H = some (true, e, T1, H1)) : V.Ends Try.prog false 1 0 (.loop (lb 79 p_shift1)) T H e T1 H1 := by
  unfold told_shift1 at h
  split at h
  · rename_i k m_zs m_xs f_xs n i us zs h1 h5 h13 h14 h15
    rw [Bool.cond_eq_ite] at h
    split at h
    · rename_i hlen
      rw [beq_iff_eq] at hlen
      simp only [Option.some.injEq, Prod.mk.injEq, Bool.and_eq_true, decide_eq_true_eq] at h
      obtain ⟨⟨⟨k1, k2⟩, k3⟩, rfl, rfl, rfl⟩ := h
      have kc := @of_decide_eq_true _ (Classical.propDecidable _) k3
      refine Ends.pre (phi_shift1_spec k zs (rowOf m_xs f_xs) n i us kc).1.ends (fun α B w D ys hr => slots_rel hlen (fun p hp y hy => ?_) hr)
      simp only [List.mem_cons, List.not_mem_nil, or_false] at hp
      rcases hp with rfl | rfl | rfl | rfl | rfl
      · rw [h1] at hy; exact hy
      · rw [h5] at hy; rw [← k2]; exact hy
      · rw [h13] at hy; rw [rowOf_len]; exact row_norm cells64 k1 hy
      · rw [h14] at hy; exact hy
      · rw [h15] at hy; exact hy
    · cases h
  · cases h
theorem LL_shift1_ok {L : LTab} (h : LOk Try.prog L) : LOk Try.prog (LL_shift1 cond_shift1 phi_shift1 L) := h.add2n body_shift1 told_shift1_ok
/-! ### unshift -/
abbrev p_unshift : List Bool := [false, true, false, true, true]
def sh_unshift (xs : List Int) (k : Int) (zs : List Int) (n : Int) (i : Int) : List AV := slots 45 [(0, .lst false 64 xs.length (lim xs)), (1, .val (.int .i64 k)), (5, .sl false 64 0 0 zs.length), (12, .val (.int .i64 n)), (13, .val (.int .i64 i))]
def hp_unshift (xs : List Int) (k : Int) (zs : List Int) (n : Int) (i : Int) : Hp := [.row (.ints .u32 zs) 64 .live]
theorem body_unshift : subC Try.prog 63 p_unshift = some (.loop (lb 63 p_unshift)) := by kernel_rfl
theorem code_unshift : subC Try.prog 63 (false :: p_unshift) = some (lb 63 p_unshift) := by kernel_rfl
theorem round_unshift  (xs : List Int) (k : Int) (zs : List Int) (n : Int) (i : Int) : roundA Try.prog EL0 63 [0, 1, 5, 12, 13] (lb 63 p_unshift) (false :: p_unshift) (sh_unshift xs k zs n i) (hp_unshift xs k zs n i) =
    (bif decide (i < n) then (bif decide ((0 : Int) ≤ i) && decide (i < (↑xs.length : Int)) then (bif inR IntKind.u64 (xs.getD i.toNat (0 : Int)) then (bif inR IntKind.i64 (i + (1 : Int)) then (bif decide (i + (1 : Int) < (↑xs.length : Int)) then (bif inR IntKind.i64 (i + (1 : Int)) then (bif decide ((0 : Int) ≤ i + (1 : Int)) && decide (i + (1 : Int) < (↑xs.length : Int)) then (bif inR IntKind.u64 (xs.getD (i + (1 : Int)).toNat (0 : Int)) then (bif decide (k < (0 : Int)) then none else (bif decide ((0 : Int) ≤ i) && decide (i < (↑zs.length : Int)) then (bif decide ((0 : Nat) + i.toNat * (1 : Nat) < zs.length) then (bif inR IntKind.i64 (i + (1 : Int)) then some (.normal, slots 45 [(0, (.lst false 64 xs.length (lim xs))), (1, (.val (.int .i64 k))), (5, (.sl false 64 0 0 zs.length)), (12, (.val (.int .i64 n))), (13, (.val (.int .i64 (i + (1 : Int)))))], [(.row (.ints .u32 (zs.set ((0 : Nat) + i.toNat * (1 : Nat)) (IntKind.u32.wrap ((bitI BinOp.or IntKind.u64 (xs.getD i.toNat (0 : Int)) (IntKind.u64.wrap (xs.getD (i + (1 : Int)).toNat (0 : Int) * (4294967296 : Int)))).fdiv ((2 : Int) ^ min k.toNat (64 : Nat)))))) 64 .live)]) else none) else none) else none)) else none) else none) else none) else (bif decide (k < (0 : Int)) then none else (bif decide ((0 : Int) ≤ i) && decide (i < (↑zs.length : Int)) then (bif decide ((0 : Nat) + i.toNat * (1 : Nat) < zs.length) then (bif inR IntKind.i64 (i + (1 : Int)) then some (.normal, slots 45 [(0, (.lst false 64 xs.length (lim xs))), (1, (.val (.int .i64 k))), (5, (.sl false 64 0 0 zs.length)), (12, (.val (.int .i64 n))), (13, (.val (.int .i64 (i + (1 : Int)))))], [(.row (.ints .u32 (zs.set ((0 : Nat) + i.toNat * (1 : Nat)) (IntKind.u32.wrap ((xs.getD i.toNat (0 : Int)).fdiv ((2 : Int) ^ min k.toNat (64 : Nat)))))) 64 .live)]) else none) else none) else none))) else none) else none) else none) else some ((.exit 0), slots 45 [(0, (.lst false 64 xs.length (lim xs))), (1, (.val (.int .i64 k))), (5, (.sl false 64 0 0 zs.length)), (12, (.val (.int .i64 n))), (13, (.val (.int .i64 i)))], [(.row (.ints .u32 zs) 64 .live)])) := by kernel_rfl
theorem step_unshift {xs : List Int} {k : Int} {zs : List Int} {n : Int} {i : Int} {e : Ex} {T : List AV} {H : Hp} (h : roundA Try.prog EL0 63 [0, 1, 5, 12, 13] (lb 63 p_unshift) (false :: p_unshift) (sh_unshift xs k zs n i) (hp_unshift xs k zs n i) = some (e, T, H)) : V.Ends Try.prog false 0 0 (lb 63 p_unshift) (sh_unshift xs k zs n i) (hp_unshift xs k zs n i) e T H :=
  round_ends (meets_none _) loops_none mixed code_unshift h
def pre_unshift (xs : List Int) (k : Int) (zs : List Int) (n i : Int) : Prop := okL xs ∧ okL zs ∧ zs.length = xs.length ∧ xs.length ≤ 17592186044416 ∧ n = xs.length ∧ i = 0 ∧ ∃ a : Nat, k = a ∧ a ≤ 32
def post_unshift (xs : List Int) (k : Int) (zs : List Int) (n i : Int) (q : List Int × Int) : Prop := okL q.1 ∧ q.1.length = xs.length ∧ vL q.1 = vL xs / 2 ^ k.toNat
theorem shr_u64 (z k : Nat) (hk : k ≤ 32) : ((z : Nat) : Int).fdiv (2 ^ min ((k : Int).toNat) 64) = ((z / 2 ^ k : Nat) : Int) := by
  rw [Int.toNat_natCast, Nat.min_eq_left (by omega), show ((2 : Int) ^ k) = ((2 ^ k : Nat) : Int) by norm_cast]
  exact fdivN _ _
theorem cat64 (a y : Nat) (ha : a < 4294967296) (hy : y < 4294967296) : bitI .or .u64 (a : Int) (IntKind.u64.wrap ((y : Int) * 4294967296)) = ((a + y * 4294967296 : Nat) : Int) := by
  have h : Go.bits .or .u64 ((a : Nat) : Int) ((y * 4294967296 : Nat) : Int) = ((a + y * 4294967296 : Nat) : Int) := by
    rw [u64_or_nat _ _ (by omega) (by omega), Nat.or_comm, nat_join 32 _ _ (by omega) (by omega), Nat.add_comm]
  rw [show (y : Int) * 4294967296 = ((y * 4294967296 : Nat) : Int) from rfl, u64n (by omega)]
  exact h
theorem unshift_go (xs : List Int) (k : Nat) (hl : okL xs) (hb : xs.length ≤ 17592186044416) (hn : k ≤ 32) (d : Nat) : ∀ (i : Nat) (out : List Int), i + d = xs.length → okL out → out.length = xs.length → Aside0 (vL (out.take i) = vL xs / 2 ^ k % 4294967296 ^ i) →
    ∃ q : List Int × Int, LoopTo Try.prog (lb 63 p_unshift) (sh_unshift xs k out xs.length i) (hp_unshift xs k out xs.length i) (.exit 0) (sh_unshift xs k q.1 xs.length q.2) (hp_unshift xs k q.1 xs.length q.2) ∧ okL q.1 ∧ q.1.length = xs.length ∧ vL q.1 = vL xs / 2 ^ k := by
  induction d with
  | zero =>
    intro i out hi hok hlen hv
    refine ⟨(out, (i : Int)), .last (step_unshift ?_) (by intro h; cases h), hok, hlen, ?_⟩
    · rw [round_unshift, dF (show ¬ ((i : Int) < xs.length) by omega)]
      rfl
    · have hv := hv.out
      rw [List.take_of_length_le (by omega), Nat.mod_eq_of_lt] at hv
      · exact hv
      · refine Nat.lt_of_le_of_lt (Nat.div_le_self _ _) ?_
        have := vL_lt hl
        rwa [show i = xs.length by omega]
  | succ d ih =>
    intro i out hi hok hlen HV
    have hil : i < xs.length := by omega
    have hio : i < out.length := by omega
    obtain ⟨a, ha, hea, hra⟩ := getD_limb hl i hil
    have hd1 : xs.drop i = (a : Int) :: xs.drop (i + 1) := by rw [List.drop_eq_getElem_cons hil, hea]
    have stp : ∀ y Z : Nat, y < 4294967296 → vL (xs.drop (i + 1)) = y + 4294967296 * Z →
        vL ((out.set i (((a + y * 4294967296) / 2 ^ k % 4294967296 : Nat) : Int)).take (i + 1)) = vL xs / 2 ^ k % 4294967296 ^ (i + 1) := by
      intro y Z hy hyZ
      rw [take_set_succ _ _ hio, vL_snoc, List.length_take, Nat.min_eq_left (by omega), Int.toNat_natCast, HV.out, mod_pow_succ]
      rw [digit_of (vL xs) i k a y Z (by rw [div_pow_take hl i (by omega), hd1, vL_cons, hyZ, Int.toNat_natCast]) hn]
    have hr := round_unshift xs k out xs.length i
    have e1 : (i : Int) + 1 = ((i + 1 : Nat) : Int) := by omega
    simp only [e1, Int.toNat_natCast, Nat.zero_add, Nat.mul_one] at hr
    have hsr := shr_u64
    simp only [Int.toNat_natCast] at hsr
    rw [hra, u64T (show 0 ≤ (a : Int) ∧ (a : Int) ≤ 18446744073709551615 by omega), i64L _ (by omega), dT (show (i : Int) < (xs.length : Int) by omega), dT (show (0 : Int) ≤ (i : Int) by omega), dF (show ¬ (k : Int) < 0 by omega), dT (show (i : Int) < (out.length : Int) by omega), dT hio] at hr
    by_cases hl2 : i + 1 < xs.length
    · obtain ⟨y, hy, hey, hry⟩ := getD_limb hl (i + 1) hl2
      have hd2 : vL (xs.drop (i + 1)) = y + 4294967296 * vL (xs.drop (i + 2)) := by rw [List.drop_eq_getElem_cons hl2, hey, vL_cons, Int.toNat_natCast]
      obtain ⟨q, h1, h2⟩ := ih (i + 1) _ (by omega) (okL_set hok i _ (limbN ((a + y * 4294967296) / 2 ^ k)).1 (limbN _).2) (by rw [List.length_set]; exact hlen) ⟨stp y _ hy hd2⟩
      refine ⟨q, .more (step_unshift ?_) h1, h2⟩
      clear h1 h2 ih HV stp
      rw [dT (show ((i + 1 : Nat) : Int) < (xs.length : Int) by omega), hry, u64T (show 0 ≤ (y : Int) ∧ (y : Int) ≤ 18446744073709551615 by omega), dT (show (0 : Int) ≤ ((i + 1 : Nat) : Int) by omega), cat64 a y ha hy, hsr _ _ hn, u32w] at hr
      rw [hr]
      unfold sh_unshift hp_unshift
      rw [List.length_set]
      rfl
    · have hd2 : vL (xs.drop (i + 1)) = 0 + 4294967296 * 0 := by rw [List.drop_of_length_le (by omega)]; rfl
      obtain ⟨q, h1, h2⟩ := ih (i + 1) _ (by omega) (okL_set hok i _ (limbN ((a + 0 * 4294967296) / 2 ^ k)).1 (limbN _).2) (by rw [List.length_set]; exact hlen) ⟨stp 0 _ (by omega) hd2⟩
      refine ⟨q, .more (step_unshift ?_) h1, h2⟩
      clear h1 h2 ih HV stp
      rw [dF (show ¬ ((i + 1 : Nat) : Int) < (xs.length : Int) by omega), hsr _ _ hn, u32w] at hr
      rw [hr, Nat.zero_mul, Nat.add_zero]
      unfold sh_unshift hp_unshift
      rw [List.length_set]
      rfl
theorem loop_unshift (xs : List Int) (k : Int) (zs : List Int) (n i : Int) (h : pre_unshift xs k zs n i) : ∃ q : List Int × Int, LoopTo Try.prog (lb 63 p_unshift) (sh_unshift xs k zs n i) (hp_unshift xs k zs n i) (.exit 0) (sh_unshift xs k q.1 n q.2) (hp_unshift xs k q.1 n q.2) ∧ post_unshift xs k zs n i q := by
  obtain ⟨h1, h2, h3, h4, rfl, rfl, a, rfl, ha⟩ := h
  unfold post_unshift
  rw [Int.toNat_natCast]
  exact unshift_go xs a h1 h4 ha xs.length 0 zs (by omega) h2 h3 ⟨by rw [List.take_zero, vL_nil, Nat.pow_zero, Nat.mod_one]⟩
def told_unshift (κ : List Int → Int → List Int → Int → Int → Bool) (φ : List Int → Int → List Int → Int → Int → List Int × Int) (T : List AV) (H : Hp) : Option (Bool × Ex × List AV × Hp) :=
  match lget T 0, lget T 1, lget T 5, lget T 12, lget T 13, H with
  | .lst false 64 m_xs f_xs, .val (.int .i64 k), .sl false 64 0 0 m_zs, .val (.int .i64 n), .val (.int .i64 i), [.row (.ints .u32 zs) 64 .live] => bif T.length == 45 then some (okB m_xs f_xs && decide (m_zs = zs.length) && κ (rowOf m_xs f_xs) k zs n i, .exit 0, sh_unshift (rowOf m_xs f_xs) k ((φ (rowOf m_xs f_xs) k zs n i).1) n ((φ (rowOf m_xs f_xs) k zs n i).2), hp_unshift (rowOf m_xs f_xs) k ((φ (rowOf m_xs f_xs) k zs n i).1) n ((φ (rowOf m_xs f_xs) k zs n i).2)) else none
  | _, _, _, _, _, _ => none
abbrev KT_unshift : Type := List Int → Int → List Int → Int → Int → Bool
abbrev FT_unshift : Type := List Int → Int → List Int → Int → Int → List Int × Int
def LL_unshift (κ : KT_unshift) (φ : FT_unshift) (L : LTab) : LTab := addLn 0 63 p_unshift [0, 1, 5, 12, 13] (told_unshift κ φ) L
def phi_unshift (xs : List Int) (k : Int) (zs : List Int) (n : Int) (i : Int) : List Int × Int := Classical.epsilon fun ρ => LoopTo Try.prog (lb 63 p_unshift) (sh_unshift xs k zs n i) (hp_unshift xs k zs n i) (.exit 0) (sh_unshift xs k (ρ.1) n (ρ.2)) (hp_unshift xs k (ρ.1) n (ρ.2)) ∧ post_unshift xs k zs n i ρ
theorem phi_unshift_spec (xs : List Int) (k : Int) (zs : List Int) (n : Int) (i : Int) (h : pre_unshift xs k zs n i) : LoopTo Try.prog (lb 63 p_unshift) (sh_unshift xs k zs n i) (hp_unshift xs k zs n i) (.exit 0) (sh_unshift xs k ((phi_unshift xs k zs n i).1) n ((phi_unshift xs k zs n i).2)) (hp_unshift xs k ((phi_unshift xs k zs n i).1) n ((phi_unshift xs k zs n i).2)) ∧ post_unshift xs k zs n i (phi_unshift xs k zs n i) := Classical.epsilon_spec (loop_unshift xs k zs n i h)
def cond_unshift (xs : List Int) (k : Int) (zs : List Int) (n : Int) (i : Int) : Bool := @decide (pre_unshift xs k zs n i) (Classical.propDecidable _)
theorem cond_unshift_eq (xs : List Int) (k : Int) (zs : List Int) (n : Int) (i : Int) (h : pre_unshift xs k zs n i) : cond_unshift xs k zs n i = true := @decide_eq_true _ (Classical.propDecidable _) h
theorem told_unshift_ok (T : List AV) (H : Hp) (e : Ex) (T1 : List AV) (H1 : Hp) (h : told_unshift cond_unshift phi_unshift T H = some (true, e, T1, H1)) : V.Ends Try.prog false 0 0 (.loop (lb 63 p_unshift)) T H e T1 H1 := by
  unfold told_unshift at h
  split at h
  · rename_i m_xs f_xs k m_zs n i zs h0 h1 h5 h12 h13
    rw [Bool.cond_eq_ite] at h
    split at h
    · rename_i hlen
      rw [beq_iff_eq] at hlen
      simp only [Option.some.injEq, Prod.mk.injEq, Bool.and_eq_true, decide_eq_true_eq] at h
      obtain ⟨⟨⟨k1, k2⟩, k3⟩, rfl, rfl, rfl⟩ := h
      have kc := @of_decide_eq_true _ (Classical.propDecidable _) k3
      refine Ends.pre (phi_unshift_spec (rowOf m_xs f_xs) k zs n i kc).1.ends (fun α B w D ys hr => slots_rel hlen (fun p hp y hy => ?_) hr)
      simp only [List.mem_cons, List.not_mem_nil, or_false] at hp
      rcases hp with rfl | rfl | rfl | rfl | rfl
      · rw [h0] at hy; rw [rowOf_len]; exact row_norm cells64 k1 hy
      · rw [h1] at hy; exact hy
      · rw [h5] at hy; rw [← k2]; exact hy
      · rw [h12] at hy; exact hy
      · rw [h13] at hy; exact hy
    · cases h
  · cases h
theorem LL_unshift_ok {L : LTab} (h : LOk Try.prog L) : LOk Try.prog (LL_unshift cond_unshift phi_unshift L) := h.add2n body_unshift told_unshift_ok
def EUn (S : Sg) (κ : KT_unshift) (φ : FT_unshift) : Env := ⟨CT S, Kall, LL_unshift κ φ noL⟩
theorem unshift_call (S : Sg) (κ : KT_unshift) (φ : FT_unshift) (xs : List Int) (k : Int) : callA Try.prog (EUn S κ φ) 10 10 63 [.lst false 64 xs.length (lim xs), .val (.int .i64 k)] =
    (bif decide ((↑xs.length : Int) ≤ (↑xs.length : Int)) && decide ((4 : Int) * (↑xs.length : Int) ≤ (281474976710656 : Int)) && decide ((↑xs.length : Int) ≤ (9223372036854775807 : Int)) then (bif okB xs.length (lim xs) && decide ((↑xs.length : Int).toNat = (List.replicate (↑xs.length : Int).toNat (0 : Int)).length) && κ (rowOf xs.length (lim xs)) k (List.replicate (↑xs.length : Int).toNat (0 : Int)) (↑xs.length : Int) (0 : Int) then (bif decide ((0 : Nat) + (φ (rowOf xs.length (lim xs)) k (List.replicate (↑xs.length : Int).toNat (0 : Int)) (↑xs.length : Int) (0 : Int)).fst.length * (1 : Nat) ≤ (φ (rowOf xs.length (lim xs)) k (List.replicate (↑xs.length : Int).toNat (0 : Int)) (↑xs.length : Int) (0 : Int)).fst.length) then (bif S.okr (φ (rowOf xs.length (lim xs)) k (List.replicate (↑xs.length : Int).toNat (0 : Int)) (↑xs.length : Int) (0 : Int)).fst.length (lim (φ (rowOf xs.length (lim xs)) k (List.replicate (↑xs.length : Int).toNat (0 : Int)) (↑xs.length : Int) (0 : Int)).fst) then some (.lst false 64 (S.len (S.num (φ (rowOf xs.length (lim xs)) k (List.replicate (↑xs.length : Int).toNat (0 : Int)) (↑xs.length : Int) (0 : Int)).fst.length (lim (φ (rowOf xs.length (lim xs)) k (List.replicate (↑xs.length : Int).toNat (0 : Int)) (↑xs.length : Int) (0 : Int)).fst))) (S.row (S.num (φ (rowOf xs.length (lim xs)) k (List.replicate (↑xs.length : Int).toNat (0 : Int)) (↑xs.length : Int) (0 : Int)).fst.length (lim (φ (rowOf xs.length (lim xs)) k (List.replicate (↑xs.length : Int).toNat (0 : Int)) (↑xs.length : Int) (0 : Int)).fst)))) else none) else none) else none) else none) := by kernel_rfl
def tUnshift (S : Sg) (args : List AV) : Option (Bool × AV) := match args with | [.lst _ 64 m f, .val (.int .i64 k)] => some (S.okr m f && decide (0 ≤ k) && decide (k ≤ 32), S.lmb (S.num m f / 2 ^ k.toNat)) | _ => none
theorem eUnshift : Entry Try.prog 63 (tUnshift sg0) := by
  refine entry_to (E := EUn sg0 cond_unshift phi_unshift) (u := 10) (d := 10) CT_ok (LL_unshift_ok LOk.none).ok (by kernel_rfl) (fun args r h => ?_)
  unfold tUnshift at h
  split at h
  · rename_i fl m f k
    simp only [Option.some.injEq, Prod.mk.injEq, Bool.and_eq_true, decide_eq_true_eq] at h
    obtain ⟨⟨⟨h1, h2⟩, h3⟩, rfl⟩ := h
    obtain ⟨a1, a2, a3, a4⟩ := okr_out h1
    have hp : pre_unshift (rowOf m f) k (List.replicate (rowOf m f).length 0) (rowOf m f).length 0 := ⟨a2, okL_replicate _, by simp, a3, rfl, rfl, k.toNat, by omega, by omega⟩
    obtain ⟨_, c1, c2, c3⟩ := phi_unshift_spec _ _ _ _ _ hp
    have hcall := unshift_call sg0 cond_unshift phi_unshift (rowOf m f) k
    simp only [rowOf_lim', Nat.mul_one, Nat.zero_add, Int.toNat_natCast, List.length_replicate, eq_self, decide_true] at hcall
    rw [cond_unshift_eq _ _ _ _ _ hp] at hcall
    generalize phi_unshift (rowOf m f) k (List.replicate (rowOf m f).length 0) (rowOf m f).length 0 = q at *
    rw [okB_lim a2, dT (show ((rowOf m f).length : Int) ≤ ((rowOf m f).length : Int) by omega), dT (show (4 : Int) * ((rowOf m f).length : Int) ≤ 281474976710656 by omega), dT (show ((rowOf m f).length : Int) ≤ 9223372036854775807 by omega), dT (show q.1.length ≤ q.1.length by omega), okr_lim c1 (by omega), num_lim, c3] at hcall
    refine ⟨_, _, hcall, fun B w ys hr => ?_, fun B w y hr => by rw [a4]; exact hr⟩
    obtain ⟨y, zs, rfl, q1, q2⟩ := hr
    exact ⟨y, _, rfl, norm_row a1 q1, q2⟩
  · cases h
end
end Go.Proofs.Ytlpfnbopmigefaa.L

/- Digit's loops, told. -/
set_option linter.unusedVariables false
set_option linter.unusedSimpArgs false
namespace Go.Proofs.Ytlpfnbopmigefaa.L
open Go Go.V Go.RowKit Go.Proofs.Ytlpfnbopmigefaa.Sp Go.Proofs.Ytlpfnbopmigefaa.F Go.Proofs.YtlpfnbopmigefaaW.PrintWords
open Go.Proofs (Try.prog)
noncomputable section
def EAd : Env := ⟨addC 86 tAdd32 noC, Kall, noL⟩
theorem EAd_ok : Meets Try.prog EAd.C := (meets_none _).add eAdd32
abbrev p_gs : List Bool := [false, false, true, true, true, true]
def sh_gs (us : List Int) (vs : List Int) (i : Int) (k : Int) (g : Int) (r : Int) (qs : List Int) : List AV := slots 194 [(0, .sl false 64 0 0 us.length), (1, .lst false 64 vs.length (lim vs)), (2, .val (.int .i64 i)), (7, .val (.int .i64 k)), (9, .val (.int .u64 g)), (10, .val (.int .u64 r))]
def hp_gs (us : List Int) (vs : List Int) (i : Int) (k : Int) (g : Int) (r : Int) (qs : List Int) : Hp := [.row (.ints .u32 us) 64 .live, .row (.ints .u32 qs) 64 .live]
theorem body_gs : subC Try.prog 80 p_gs = some (.loop (lb 80 p_gs)) := by kernel_rfl
theorem code_gs : subC Try.prog 80 (false :: p_gs) = some (lb 80 p_gs) := by kernel_rfl
theorem round_gs  (us : List Int) (vs : List Int) (i : Int) (k : Int) (g : Int) (r : Int) (qs : List Int) : roundB Try.prog EL0 2 80 [0, 1, 2, 7, 9, 10] (lb 80 p_gs) (false :: p_gs) (sh_gs us vs i k g r qs) (hp_gs us vs i k g r qs) =
    (bif decide ((0 : Int) < g.fdiv (4294967296 : Int)) then (bif inR IntKind.i64 (k - (1 : Int)) then (bif decide ((0 : Int) ≤ k - (1 : Int)) && decide (k - (1 : Int) < (↑vs.length : Int)) then (bif inR IntKind.u64 (vs.getD (k - (1 : Int)).toNat (0 : Int)) then (bif decide ((0 : Int) < (IntKind.u64.wrap (r + vs.getD (k - (1 : Int)).toNat (0 : Int))).fdiv (4294967296 : Int)) then (bif decide ((IntKind.u64.wrap (g - (1 : Int))).fdiv (4294967296 : Int) = (0 : Int)) then some ((.exit 0), slots 194 [(0, (.sl false 64 0 0 us.length)), (1, (.lst false 64 vs.length (lim vs))), (2, (.val (.int .i64 i))), (7, (.val (.int .i64 k))), (9, (.val (.int .u64 (IntKind.u64.wrap (g - (1 : Int)))))), (10, (.val (.int .u64 (IntKind.u64.wrap (r + vs.getD (k - (1 : Int)).toNat (0 : Int))))))], [(.row (.ints .u32 us) 64 .live), (.row (.ints .u32 qs) 64 .live)]) else some (.normal, slots 194 [(0, (.sl false 64 0 0 us.length)), (1, (.lst false 64 vs.length (lim vs))), (2, (.val (.int .i64 i))), (7, (.val (.int .i64 k))), (9, (.val (.int .u64 (IntKind.u64.wrap (g - (1 : Int)))))), (10, (.val (.int .u64 (IntKind.u64.wrap (r + vs.getD (k - (1 : Int)).toNat (0 : Int))))))], [(.row (.ints .u32 us) 64 .live), (.row (.ints .u32 qs) 64 .live)])) else some (.normal, slots 194 [(0, (.sl false 64 0 0 us.length)), (1, (.lst false 64 vs.length (lim vs))), (2, (.val (.int .i64 i))), (7, (.val (.int .i64 k))), (9, (.val (.int .u64 (IntKind.u64.wrap (g - (1 : Int)))))), (10, (.val (.int .u64 (IntKind.u64.wrap (r + vs.getD (k - (1 : Int)).toNat (0 : Int))))))], [(.row (.ints .u32 us) 64 .live), (.row (.ints .u32 qs) 64 .live)])) else none) else none) else none) else (bif decide (r.fdiv (4294967296 : Int) = (0 : Int)) then (bif inR IntKind.i64 (k - (2 : Int)) then (bif decide ((0 : Int) ≤ k - (2 : Int)) && decide (k - (2 : Int) < (↑vs.length : Int)) then (bif inR IntKind.u64 (vs.getD (k - (2 : Int)).toNat (0 : Int)) then (bif inR IntKind.i64 (i + k) then (bif inR IntKind.i64 (i + k - (2 : Int)) then (bif decide ((0 : Int) ≤ i + k - (2 : Int)) && decide (i + k - (2 : Int) < (↑us.length : Int)) then (bif decide ((0 : Nat) + (i + k - (2 : Int)).toNat * (1 : Nat) < us.length) then (bif inR IntKind.u64 (us.getD ((0 : Nat) + (i + k - (2 : Int)).toNat * (1 : Nat)) (0 : Int)) then (bif decide (bitI BinOp.or IntKind.u64 (IntKind.u64.wrap (r * (4294967296 : Int))) (us.getD ((0 : Nat) + (i + k - (2 : Int)).toNat * (1 : Nat)) (0 : Int)) < IntKind.u64.wrap (g * vs.getD (k - (2 : Int)).toNat (0 : Int))) then (bif inR IntKind.i64 (k - (1 : Int)) then (bif decide ((0 : Int) ≤ k - (1 : Int)) && decide (k - (1 : Int) < (↑vs.length : Int)) then (bif inR IntKind.u64 (vs.getD (k - (1 : Int)).toNat (0 : Int)) then (bif decide ((0 : Int) < (IntKind.u64.wrap (r + vs.getD (k - (1 : Int)).toNat (0 : Int))).fdiv (4294967296 : Int)) then (bif decide ((IntKind.u64.wrap (g - (1 : Int))).fdiv (4294967296 : Int) = (0 : Int)) then some ((.exit 0), slots 194 [(0, (.sl false 64 0 0 us.length)), (1, (.lst false 64 vs.length (lim vs))), (2, (.val (.int .i64 i))), (7, (.val (.int .i64 k))), (9, (.val (.int .u64 (IntKind.u64.wrap (g - (1 : Int)))))), (10, (.val (.int .u64 (IntKind.u64.wrap (r + vs.getD (k - (1 : Int)).toNat (0 : Int))))))], [(.row (.ints .u32 us) 64 .live), (.row (.ints .u32 qs) 64 .live)]) else some (.normal, slots 194 [(0, (.sl false 64 0 0 us.length)), (1, (.lst false 64 vs.length (lim vs))), (2, (.val (.int .i64 i))), (7, (.val (.int .i64 k))), (9, (.val (.int .u64 (IntKind.u64.wrap (g - (1 : Int)))))), (10, (.val (.int .u64 (IntKind.u64.wrap (r + vs.getD (k - (1 : Int)).toNat (0 : Int))))))], [(.row (.ints .u32 us) 64 .live), (.row (.ints .u32 qs) 64 .live)])) else some (.normal, slots 194 [(0, (.sl false 64 0 0 us.length)), (1, (.lst false 64 vs.length (lim vs))), (2, (.val (.int .i64 i))), (7, (.val (.int .i64 k))), (9, (.val (.int .u64 (IntKind.u64.wrap (g - (1 : Int)))))), (10, (.val (.int .u64 (IntKind.u64.wrap (r + vs.getD (k - (1 : Int)).toNat (0 : Int))))))], [(.row (.ints .u32 us) 64 .live), (.row (.ints .u32 qs) 64 .live)])) else none) else none) else none) else some ((.exit 0), slots 194 [(0, (.sl false 64 0 0 us.length)), (1, (.lst false 64 vs.length (lim vs))), (2, (.val (.int .i64 i))), (7, (.val (.int .i64 k))), (9, (.val (.int .u64 g))), (10, (.val (.int .u64 r)))], [(.row (.ints .u32 us) 64 .live), (.row (.ints .u32 qs) 64 .live)])) else none) else none) else none) else none) else none) else none) else none) else none) else some ((.exit 0), slots 194 [(0, (.sl false 64 0 0 us.length)), (1, (.lst false 64 vs.length (lim vs))), (2, (.val (.int .i64 i))), (7, (.val (.int .i64 k))), (9, (.val (.int .u64 g))), (10, (.val (.int .u64 r)))], [(.row (.ints .u32 us) 64 .live), (.row (.ints .u32 qs) 64 .live)]))) := by kernel_rfl
theorem step_gs {us : List Int} {vs : List Int} {i : Int} {k : Int} {g : Int} {r : Int} {qs : List Int} {e : Ex} {T : List AV} {H : Hp} (h : roundB Try.prog EL0 2 80 [0, 1, 2, 7, 9, 10] (lb 80 p_gs) (false :: p_gs) (sh_gs us vs i k g r qs) (hp_gs us vs i k g r qs) = some (e, T, H)) : V.Ends Try.prog false 2 0 (lb 80 p_gs) (sh_gs us vs i k g r qs) (hp_gs us vs i k g r qs) e T H :=
  round_endsB (meets_none _) loops_none mixed code_gs h
def digQ (us vs : List Int) (i : Nat) : Nat := vL us / (4294967296 ^ i * vL vs)
def pre_gs (us vs : List Int) (i k g r : Int) (qs : List Int) : Prop := ∃ I x0 x1 v1 : Nat, i = I ∧ k = vs.length ∧ okL us ∧ okL vs ∧ 2 ≤ vs.length ∧ I + vs.length < us.length ∧ us.length ≤ 17592186044416 ∧ vs.getD (vs.length - 1) 0 = v1 ∧ 2147483648 ≤ v1 ∧
  vL us < 4294967296 ^ (I + 1) * vL vs ∧ us.getD (I + vs.length) 0 = x0 ∧ us.getD (I + vs.length - 1) 0 = x1 ∧ g = ((x0 * 4294967296 + x1) / v1 : Nat) ∧ r = ((x0 * 4294967296 + x1) % v1 : Nat)
def post_gs (us vs : List Int) (i k g r : Int) (qs : List Int) (ρ : Int × Int) : Prop := ∃ g' : Nat, ρ.1 = g' ∧ digQ us vs i.toNat ≤ g' ∧ g' ≤ digQ us vs i.toNat + 1 ∧ g' < 4294967296
theorem gs_go (us vs : List Int) (qs : List Int) (i : Nat) (hb : i + vs.length < us.length) (hbu : us.length ≤ 17592186044416) (hk : 2 ≤ vs.length) (u2 v1 v2 : Nat) (hu2 : u2 < 4294967296) (hv1 : v1 < 4294967296) (hv1' : 1 ≤ v1) (hv2 : v2 < 4294967296)
    (eu : us.getD (i + vs.length - 2) 0 = (u2 : Int)) (ev1 : vs.getD (vs.length - 1) 0 = (v1 : Int)) (ev2 : vs.getD (vs.length - 2) 0 = (v2 : Int))
    (P X Y top : Nat) (hX : X < P) (hY : Y < P) (htop : top < 18446744073709551616) (q : Nat) (hqB : q < 4294967296) (hq1 : q * (Y + P * (v1 * 4294967296 + v2)) ≤ X + P * (top * 4294967296 + u2)) (hq2 : X + P * (top * 4294967296 + u2) < (q + 1) * (Y + P * (v1 * 4294967296 + v2))) (n : Nat) :
    ∀ g r : Nat, g = n → g * v1 + r = top → q ≤ g → ∃ ρ : Int × Int, LoopToB Try.prog 2 (lb 80 p_gs) (sh_gs us vs i vs.length g r qs) (hp_gs us vs i vs.length g r qs) (.exit 0) (sh_gs us vs i vs.length ρ.1 ρ.2 qs) (hp_gs us vs i vs.length ρ.1 ρ.2 qs) ∧ ∃ g' : Nat, ρ.1 = g' ∧ q ≤ g' ∧ g' ≤ q + 1 ∧ g' < 4294967296 := by
  have hpos : 0 < Y + P * (v1 * 4294967296 + v2) := by
    have : P * 1 ≤ P * (v1 * 4294967296 + v2) := Nat.mul_le_mul_left P (by omega)
    omega
  have out : ∀ g r : Nat, g < 4294967296 → g * v1 + r = top → g * v2 ≤ r * 4294967296 + u2 → g ≤ q + 1 := by
    intro g r h1 h2 h3
    have h4 := g_ge (X := X) hY hv1' h1 h2 h3
    rcases Nat.lt_or_ge (q + 1) g with h5 | h5
    · exfalso
      have h6 := Nat.mul_le_mul_right (Y + P * (v1 * 4294967296 + v2)) h5
      rw [Nat.succ_mul] at h6
      omega
    · exact h5
  have wide : ∀ g r : Nat, g < 4294967296 → 4294967296 ≤ r → g * v2 ≤ r * 4294967296 + u2 := by
    intro g r h1 h2
    have h3 : g * v2 ≤ 4294967296 * 4294967296 := Nat.mul_le_mul (by omega) (by omega)
    have h4 : 4294967296 * 4294967296 ≤ r * 4294967296 := Nat.mul_le_mul_right _ h2
    omega
  have down : ∀ g r : Nat, g * v1 + r = top → (4294967296 ≤ g ∨ r * 4294967296 + u2 < g * v2) → q + 1 ≤ g := by
    intro g r h1 h2
    rcases h2 with h2 | h2
    · omega
    · have h3 := g_lt (Y := Y) hX h1 h2
      rcases Nat.lt_or_ge q g with h4 | h4
      · exact h4
      · exfalso
        have := Nat.mul_le_mul_right (Y + P * (v1 * 4294967296 + v2)) h4
        omega
  clear hq1 hq2 hpos
  have e1 : (vs.length : Int) - 1 = ((vs.length - 1 : Nat) : Int) := by omega
  have e2 : (vs.length : Int) - 2 = ((vs.length - 2 : Nat) : Int) := by omega
  have e3 : (i : Int) + (vs.length : Int) = ((i + vs.length : Nat) : Int) := by omega
  have e4 : ((i + vs.length : Nat) : Int) - 2 = ((i + vs.length - 2 : Nat) : Int) := by omega
  have l1 : inR .i64 ((vs.length - 1 : Nat) : Int) = true := i64L _ (by omega)
  have l2 : inR .i64 ((vs.length - 2 : Nat) : Int) = true := i64L _ (by omega)
  have l3 : inR .i64 ((i + vs.length : Nat) : Int) = true := i64L _ (by omega)
  have l4 : inR .i64 ((i + vs.length - 2 : Nat) : Int) = true := i64L _ (by omega)
  have b1 : decide ((0 : Int) ≤ ((vs.length - 1 : Nat) : Int)) = true := dT (by omega)
  have b2 : decide ((0 : Int) ≤ ((vs.length - 2 : Nat) : Int)) = true := dT (by omega)
  have b3 : decide ((0 : Int) ≤ ((i + vs.length - 2 : Nat) : Int)) = true := dT (by omega)
  have b4 : decide (((vs.length - 1 : Nat) : Int) < (vs.length : Int)) = true := dT (by omega)
  have b5 : decide (((vs.length - 2 : Nat) : Int) < (vs.length : Int)) = true := dT (by omega)
  have b6 : decide (((i + vs.length - 2 : Nat) : Int) < (us.length : Int)) = true := dT (by omega)
  have b7 : decide (i + vs.length - 2 < us.length) = true := dT (by omega)
  have c1 : inR .u64 (v1 : Int) = true := u64T (by omega)
  have c2 : inR .u64 (v2 : Int) = true := u64T (by omega)
  have c3 : inR .u64 (u2 : Int) = true := u64T (by omega)
  have rnd : ∀ g r : Nat, _ := fun g r => round_gs us vs i vs.length g r qs
  simp only [e1, e2, e3, e4, Int.toNat_natCast, Nat.zero_add, Nat.mul_one, l1, l2, l3, l4, b1, b2, b3, b4, b5, b6, b7, ev1, ev2, eu, c1, c2, c3, fdiv32] at rnd
  clear e1 e2 e3 e4 l1 l2 l3 l4 b1 b2 b3 b4 b5 b6 b7 c1 c2 c3
  induction n with
  | zero =>
    intro g r hn hg hq
    subst hn
    have hr := rnd 0 r
    rw [dF (show ¬ (0 : Int) < ((0 / 4294967296 : Nat) : Int) by omega)] at hr
    refine ⟨((0 : Nat), (r : Int)), .last (step_gs ?_) (by intro h; cases h), 0, rfl, hq, by omega, by omega⟩
    by_cases hr32 : ((r / 4294967296 : Nat) : Int) = 0
    · have hrB : r < 4294967296 := by omega
      rw [dT hr32, join64 r u2 hrB hu2, ← Int.natCast_mul, Nat.zero_mul, u64n (a := 0) (by omega), dF (show ¬ ((r * 4294967296 + u2 : Nat) : Int) < ((0 : Nat) : Int) by omega)] at hr
      rw [hr]; rfl
    · rw [dF hr32] at hr
      rw [hr]; rfl
  | succ n ih =>
    intro g r hn hg hq
    have hgv : n * v1 + (r + v1) = top := by rw [← hg, hn, Nat.succ_mul]; omega
    have hg64 : g < 18446744073709551616 := by
      have := Nat.le_mul_of_pos_right g hv1'
      omega
    have hr := rnd g r
    have w1 : IntKind.u64.wrap ((g : Int) - 1) = ((n : Nat) : Int) := (u64w (by omega) (by omega)).trans (by omega)
    -- the round's body
    have body : q + 1 ≤ g →
        roundB Try.prog EL0 2 80 [0, 1, 2, 7, 9, 10] (lb 80 p_gs) (false :: p_gs) (sh_gs us vs i vs.length g r qs) (hp_gs us vs i vs.length g r qs) = (bif decide ((0 : Int) < (((r + v1) / 4294967296 : Nat) : Int)) then bif decide (((n / 4294967296 : Nat) : Int) = 0) then some (.exit 0, sh_gs us vs i vs.length n ((r + v1 : Nat) : Int) qs, hp_gs us vs i vs.length n ((r + v1 : Nat) : Int) qs) else some (.normal, sh_gs us vs i vs.length n ((r + v1 : Nat) : Int) qs, hp_gs us vs i vs.length n ((r + v1 : Nat) : Int) qs) else some (.normal, sh_gs us vs i vs.length n ((r + v1 : Nat) : Int) qs, hp_gs us vs i vs.length n ((r + v1 : Nat) : Int) qs)) →
        ∃ ρ : Int × Int, LoopToB Try.prog 2 (lb 80 p_gs) (sh_gs us vs i vs.length g r qs) (hp_gs us vs i vs.length g r qs) (.exit 0) (sh_gs us vs i vs.length ρ.1 ρ.2 qs) (hp_gs us vs i vs.length ρ.1 ρ.2 qs) ∧ ∃ g' : Nat, ρ.1 = g' ∧ q ≤ g' ∧ g' ≤ q + 1 ∧ g' < 4294967296 := by
      intro hq3 hbd
      by_cases hc : 4294967296 ≤ r + v1 ∧ n < 4294967296
      · rw [dT (show (0 : Int) < (((r + v1) / 4294967296 : Nat) : Int) by omega), dT (show ((n / 4294967296 : Nat) : Int) = 0 by omega)] at hbd
        exact ⟨((n : Int), ((r + v1 : Nat) : Int)), .last (step_gs hbd) (by intro h; cases h), n, rfl, by omega, out n (r + v1) hc.2 hgv (wide _ _ hc.2 hc.1), hc.2⟩
      · obtain ⟨ρ, h1, h2⟩ := ih n (r + v1) rfl hgv (by omega)
        refine ⟨ρ, .more (step_gs ?_) h1, h2⟩
        rw [hbd]
        by_cases hc2 : (0 : Int) < (((r + v1) / 4294967296 : Nat) : Int)
        · rw [dT hc2, dF (show ¬ ((n / 4294967296 : Nat) : Int) = 0 by omega)]
          rfl
        · rw [dF hc2]
          rfl
    have hbody : q + 1 ≤ g → IntKind.u64.wrap ((r : Int) + v1) = ((r + v1 : Nat) : Int) := fun h => by
      rw [← Int.natCast_add, u64n]
      omega
    by_cases h32 : 4294967296 ≤ g
    · have hq3 := down g r hg (.inl h32)
      rw [dT (show (0 : Int) < ((g / 4294967296 : Nat) : Int) by omega), w1, hbody hq3, fdiv32, fdiv32] at hr
      exact body hq3 hr
    · rw [dF (show ¬ (0 : Int) < ((g / 4294967296 : Nat) : Int) by omega)] at hr
      by_cases hr32 : 4294967296 ≤ r
      · rw [dF (show ¬ ((r / 4294967296 : Nat) : Int) = 0 by omega)] at hr
        exact ⟨((g : Int), (r : Int)), .last (step_gs hr) (by intro h; cases h), g, rfl, hq, out g r (by omega) hg (wide g r (by omega) hr32), by omega⟩
      · have hg32 : g < 4294967296 := by omega
        have hr33 : r < 4294967296 := by omega
        have hgv2 : g * v2 ≤ 4294967295 * 4294967295 := Nat.mul_le_mul (by omega) (by omega)
        rw [dT (show ((r / 4294967296 : Nat) : Int) = 0 by omega), join64 r u2 hr33 hu2, ← Int.natCast_mul g v2, u64n (a := g * v2) (by omega)] at hr
        by_cases hc : r * 4294967296 + u2 < g * v2
        · have hq3 := down g r hg (.inr hc)
          rw [dT (show ((r * 4294967296 + u2 : Nat) : Int) < ((g * v2 : Nat) : Int) by omega), w1, hbody hq3, fdiv32, fdiv32] at hr
          exact body hq3 hr
        · rw [dF (show ¬ ((r * 4294967296 + u2 : Nat) : Int) < ((g * v2 : Nat) : Int) by omega)] at hr
          exact ⟨((g : Int), (r : Int)), .last (step_gs hr) (by intro h; cases h), g, rfl, hq, out g r (by omega) hg (by omega), by omega⟩
theorem loop_gs (us vs : List Int) (i k g r : Int) (qs : List Int) (h : pre_gs us vs i k g r qs) : ∃ ρ : Int × Int, LoopToB Try.prog 2 (lb 80 p_gs) (sh_gs us vs i k g r qs) (hp_gs us vs i k g r qs) (.exit 0) (sh_gs us vs i k ρ.1 ρ.2 qs) (hp_gs us vs i k ρ.1 ρ.2 qs) ∧ post_gs us vs i k g r qs ρ := by
  obtain ⟨i, x0, x1, v1, rfl, rfl, hu, hv, hk, hi, hb, ev1, hv1n, hlt, r0, r1, rfl, rfl⟩ := h
  have hlen1 : vs.length - 1 < vs.length := by omega
  have hlen2 : vs.length - 2 < vs.length := by omega
  have hu0 : i + vs.length < us.length := hi
  have hu1 : i + vs.length - 1 < us.length := by omega
  have hu2 : i + vs.length - 2 < us.length := by omega
  have hid : i + vs.length + 1 ≤ us.length := by omega
  obtain ⟨x0', hx0, ex0, r0'⟩ := getD_limb hu _ hu0
  obtain ⟨x1', hx1, ex1, r1'⟩ := getD_limb hu _ hu1
  obtain ⟨x2, hx2, ex2, r2⟩ := getD_limb hu _ hu2
  obtain ⟨v2, hv2, ev2', ev2⟩ := getD_limb hv _ hlen2
  obtain ⟨v1', hv1, ev1', ev1''⟩ := getD_limb hv _ hlen1
  obtain rfl : x0' = x0 := by rw [r0'] at r0; exact Int.ofNat.inj r0
  obtain rfl : x1' = x1 := by rw [r1'] at r1; exact Int.ofNat.inj r1
  obtain rfl : v1' = v1 := by rw [ev1''] at ev1; exact Int.ofNat.inj ev1
  have hVlt := vL_lt hv
  have hz : vL (us.drop (i + vs.length + 1)) = 0 := by
    refine vL_high _ hid (Nat.lt_of_lt_of_le hlt ?_)
    rw [show i + vs.length + 1 = (i + 1) + vs.length by omega, Nat.pow_add 4294967296 (i + 1) vs.length]
    exact Nat.mul_le_mul_left _ (Nat.le_of_lt hVlt)
  have hud : vL (us.drop (i + vs.length - 2)) = (x0' * 4294967296 + x1') * 4294967296 + x2 := by
    rw [List.drop_eq_getElem_cons hu2, ex2, vL_cons, show i + vs.length - 2 + 1 = i + vs.length - 1 by omega, List.drop_eq_getElem_cons hu1, ex1, vL_cons, show i + vs.length - 1 + 1 = i + vs.length by omega, List.drop_eq_getElem_cons hu0, ex0, vL_cons, hz]
    simp only [Int.toNat_natCast]
    omega
  have hvd : vL (vs.drop (vs.length - 2)) = v1' * 4294967296 + v2 := by
    rw [List.drop_eq_getElem_cons hlen2, ev2', vL_cons, show vs.length - 2 + 1 = vs.length - 1 by omega, List.drop_eq_getElem_cons hlen1, ev1', vL_cons, List.drop_of_length_le (by omega), vL_nil]
    simp only [Int.toNat_natCast]
    omega
  have hU := vL_take_add us (i + vs.length - 2) (by omega)
  rw [hud] at hU
  have hX := vL_lt (okL_take hu (i + vs.length - 2))
  rw [List.length_take, Nat.min_eq_left (by omega)] at hX
  have hV := vL_take_add vs (vs.length - 2) (by omega)
  rw [hvd] at hV
  have hYv := vL_lt (okL_take hv (vs.length - 2))
  rw [List.length_take, Nat.min_eq_left (by omega)] at hYv
  have hPe : 4294967296 ^ (i + vs.length - 2) = 4294967296 ^ i * 4294967296 ^ (vs.length - 2) := by rw [← Nat.pow_add]; exact congrArg (4294967296 ^ ·) (by omega)
  have hY : 4294967296 ^ i * vL (vs.take (vs.length - 2)) < 4294967296 ^ (i + vs.length - 2) := by
    rw [hPe]; exact Nat.mul_lt_mul_of_pos_left hYv (Nat.pow_pos (by decide))
  have hVV : 4294967296 ^ i * vL vs = 4294967296 ^ i * vL (vs.take (vs.length - 2)) + 4294967296 ^ (i + vs.length - 2) * (v1' * 4294967296 + v2) := by
    rw [hPe, Nat.mul_assoc, ← Nat.mul_add, ← hV]
  have hVpos : 0 < 4294967296 ^ i * vL vs := by
    rcases Nat.eq_zero_or_pos (vL vs) with h | h
    · rw [h, Nat.mul_zero] at hlt; omega
    · exact Nat.mul_pos (Nat.pow_pos (by decide)) h
  have htop : x0' * 4294967296 + x1' < 18446744073709551616 := by omega
  have hq1 : vL us / (4294967296 ^ i * vL vs) * (4294967296 ^ i * vL vs) ≤ vL us := Nat.div_mul_le_self _ _
  have hq2 : vL us < (vL us / (4294967296 ^ i * vL vs) + 1) * (4294967296 ^ i * vL vs) := by
    rw [Nat.add_mul, Nat.one_mul]
    exact Nat.lt_div_mul_add hVpos
  have hqB : vL us / (4294967296 ^ i * vL vs) < 4294967296 := by
    rw [Nat.div_lt_iff_lt_mul hVpos, ← Nat.mul_assoc, Nat.mul_comm 4294967296, ← Nat.pow_succ]
    exact hlt
  unfold post_gs digQ
  rw [Int.toNat_natCast]
  have hgs := g_start (P := 4294967296 ^ (i + vs.length - 2)) (X := vL (us.take (i + vs.length - 2))) (Y := 4294967296 ^ i * vL (vs.take (vs.length - 2))) (v2 := v2) hX hx2 (show 1 ≤ v1' by omega) (by rw [← hU, ← hVV]; exact hq1)
  exact gs_go us vs qs i hi hb hk x2 v1' v2 hx2 hv1 (by omega) hv2 r2 ev1 ev2 (4294967296 ^ (i + vs.length - 2)) (vL (us.take (i + vs.length - 2))) (4294967296 ^ i * vL (vs.take (vs.length - 2))) (x0' * 4294967296 + x1') hX hY htop _ hqB (by rw [← hU, ← hVV]; exact hq1) (by rw [← hU, ← hVV]; exact hq2) _ _ ((x0' * 4294967296 + x1') % v1') rfl (by rw [Nat.mul_comm]; exact Nat.div_add_mod _ _) hgs
def told_gs (κ : List Int → List Int → Int → Int → Int → Int → List Int → Bool) (φ : List Int → List Int → Int → Int → Int → Int → List Int → Int × Int) (T : List AV) (H : Hp) : Option (Bool × Ex × List AV × Hp) :=
  match lget T 0, lget T 1, lget T 2, lget T 7, lget T 9, lget T 10, H with
  | .sl false 64 0 0 m_us, .lst false 64 m_vs f_vs, .val (.int .i64 i), .val (.int .i64 k), .val (.int .u64 g), .val (.int .u64 r), [.row (.ints .u32 us) 64 .live, .row (.ints .u32 qs) 64 .live] => bif T.length == 194 then some (okB m_vs f_vs && decide (m_us = us.length) && κ us (rowOf m_vs f_vs) i k g r qs, .exit 0, sh_gs us (rowOf m_vs f_vs) i k ((φ us (rowOf m_vs f_vs) i k g r qs).1) ((φ us (rowOf m_vs f_vs) i k g r qs).2) qs, hp_gs us (rowOf m_vs f_vs) i k ((φ us (rowOf m_vs f_vs) i k g r qs).1) ((φ us (rowOf m_vs f_vs) i k g r qs).2) qs) else none
  | _, _, _, _, _, _, _ => none
abbrev KT_gs : Type := List Int → List Int → Int → Int → Int → Int → List Int → Bool
abbrev FT_gs : Type := List Int → List Int → Int → Int → Int → Int → List Int → Int × Int
def LL_gs (κ : KT_gs) (φ : FT_gs) (L : LTab) : LTab := addLn 2 80 p_gs [0, 1, 2, 7, 9, 10] (told_gs κ φ) L
def phi_gs (us : List Int) (vs : List Int) (i : Int) (k : Int) (g : Int) (r : Int) (qs : List Int) : Int × Int := Classical.epsilon fun ρ => LoopToB Try.prog 2 (lb 80 p_gs) (sh_gs us vs i k g r qs) (hp_gs us vs i k g r qs) (.exit 0) (sh_gs us vs i k (ρ.1) (ρ.2) qs) (hp_gs us vs i k (ρ.1) (ρ.2) qs) ∧ post_gs us vs i k g r qs ρ
theorem phi_gs_spec (us : List Int) (vs : List Int) (i : Int) (k : Int) (g : Int) (r : Int) (qs : List Int) (h : pre_gs us vs i k g r qs) : LoopToB Try.prog 2 (lb 80 p_gs) (sh_gs us vs i k g r qs) (hp_gs us vs i k g r qs) (.exit 0) (sh_gs us vs i k ((phi_gs us vs i k g r qs).1) ((phi_gs us vs i k g r qs).2) qs) (hp_gs us vs i k ((phi_gs us vs i k g r qs).1) ((phi_gs us vs i k g r qs).2) qs) ∧ post_gs us vs i k g r qs (phi_gs us vs i k g r qs) := Classical.epsilon_spec (loop_gs us vs i k g r qs h)
def cond_gs (us : List Int) (vs : List Int) (i : Int) (k : Int) (g : Int) (r : Int) (qs : List Int) : Bool := @decide (pre_gs us vs i k g r qs) (Classical.propDecidable _)
theorem cond_gs_eq (us : List Int) (vs : List Int) (i : Int) (k : Int) (g : Int) (r : Int) (qs : List Int) (h : pre_gs us vs i k g r qs) : cond_gs us vs i k g r qs = true := @decide_eq_true _ (Classical.propDecidable _) h
theorem told_gs_ok (T : List AV) (H : Hp) (e : Ex) (T1 : List AV) (H1 : Hp) (h : told_gs cond_gs phi_gs T H = some (true, e, T1, H1)) : V.Ends Try.prog false 2 0 (.loop (lb 80 p_gs)) T H e T1 H1 := by
  unfold told_gs at h
  split at h
  · rename_i m_us m_vs f_vs i k g r us qs h0 h1 h2 h7 h9 h10
    rw [Bool.cond_eq_ite] at h
    split at h
    · rename_i hlen
      rw [beq_iff_eq] at hlen
      simp only [Option.some.injEq, Prod.mk.injEq, Bool.and_eq_true, decide_eq_true_eq] at h
      obtain ⟨⟨⟨k1, k2⟩, k3⟩, rfl, rfl, rfl⟩ := h
      have kc := @of_decide_eq_true _ (Classical.propDecidable _) k3
      refine Ends.pre (phi_gs_spec us (rowOf m_vs f_vs) i k g r qs kc).1.ends (fun α B w D ys hr => slots_rel hlen (fun p hp y hy => ?_) hr)
      simp only [List.mem_cons, List.not_mem_nil, or_false] at hp
      rcases hp with rfl | rfl | rfl | rfl | rfl | rfl
      · rw [h0] at hy; rw [← k2]; exact hy
      · rw [h1] at hy; rw [rowOf_len]; exact row_norm cells64 k1 hy
      · rw [h2] at hy; exact hy
      · rw [h7] at hy; exact hy
      · rw [h9] at hy; exact hy
      · rw [h10] at hy; exact hy
    · cases h
  · cases h
theorem LL_gs_ok {L : LTab} (h : LOk Try.prog L) : LOk Try.prog (LL_gs cond_gs phi_gs L) := h.add2n body_gs told_gs_ok
end
end Go.Proofs.Ytlpfnbopmigefaa.L

/- Digit's other loops, told. -/
set_option linter.unusedVariables false
set_option linter.unusedSimpArgs false
namespace Go.Proofs.Ytlpfnbopmigefaa.L
open Go Go.V Go.RowKit Go.Proofs.Ytlpfnbopmigefaa.Sp Go.Proofs.Ytlpfnbopmigefaa.F Go.Proofs.YtlpfnbopmigefaaW.PrintWords
open Go.Proofs (Try.prog)
noncomputable section
abbrev p_ms : List Bool := [false, true, false, true, true, true, true, true, true]
def sh_ms (us : List Int) (vs : List Int) (i : Int) (k : Int) (g : Int) (c : Int) (b : Int) (ws : List Int) (n : Int) (j : Int) (qs : List Int) : List AV := slots 194 [(0, .sl false 64 0 0 us.length), (1, .lst false 64 vs.length (lim vs)), (2, .val (.int .i64 i)), (7, .val (.int .i64 k)), (9, .val (.int .u64 g)), (11, .val (.int .u64 c)), (12, .val (.int .u32 b)), (101, .lst false 64 ws.length (lim ws)), (102, .val (.int .i64 n)), (103, .val (.int .i64 j))]
def hp_ms (us : List Int) (vs : List Int) (i : Int) (k : Int) (g : Int) (c : Int) (b : Int) (ws : List Int) (n : Int) (j : Int) (qs : List Int) : Hp := [.row (.ints .u32 us) 64 .live, .row (.ints .u32 qs) 64 .live]
theorem body_ms : subC Try.prog 80 p_ms = some (.loop (lb 80 p_ms)) := by kernel_rfl
theorem code_ms : subC Try.prog 80 (false :: p_ms) = some (lb 80 p_ms) := by kernel_rfl
theorem round_ms  (us : List Int) (vs : List Int) (i : Int) (k : Int) (g : Int) (c : Int) (b : Int) (ws : List Int) (n : Int) (j : Int) (qs : List Int) : roundB Try.prog E32 2 80 [0, 1, 2, 7, 9, 11, 12, 101, 102, 103] (lb 80 p_ms) (false :: p_ms) (sh_ms us vs i k g c b ws n j qs) (hp_ms us vs i k g c b ws n j qs) =
    (bif decide (j < n) then (bif decide ((0 : Int) ≤ j) && decide (j < (↑ws.length : Int)) then (bif inR IntKind.u64 (ws.getD j.toNat (0 : Int)) then (bif inR IntKind.i64 (i + j) then (bif inR IntKind.i64 (i + j) then (bif decide ((0 : Int) ≤ i + j) && decide (i + j < (↑us.length : Int)) then (bif decide ((0 : Nat) + (i + j).toNat * (1 : Nat) < us.length) then (bif inU (us.getD ((0 : Nat) + (i + j).toNat * (1 : Nat)) (0 : Int)) && inU (IntKind.u32.wrap (IntKind.u64.wrap (c + IntKind.u64.wrap (g * ws.getD j.toNat (0 : Int))))) && decide ((0 : Int) ≤ b) && decide (b ≤ (1 : Int)) then (bif decide ((0 : Int) ≤ i + j) && decide (i + j < (↑us.length : Int)) then (bif decide ((0 : Nat) + (i + j).toNat * (1 : Nat) < us.length) then (bif inR IntKind.i64 (j + (1 : Int)) then some (.normal, slots 194 [(0, (.sl false 64 0 0 us.length)), (1, (.lst false 64 vs.length (lim vs))), (2, (.val (.int .i64 i))), (7, (.val (.int .i64 k))), (9, (.val (.int .u64 g))), (11, (.val (.int .u64 ((IntKind.u64.wrap (c + IntKind.u64.wrap (g * ws.getD j.toNat (0 : Int)))).fdiv (4294967296 : Int))))), (12, (.val (.int .u32 (if us.getD ((0 : Nat) + (i + j).toNat * (1 : Nat)) (0 : Int) < IntKind.u32.wrap (IntKind.u64.wrap (c + IntKind.u64.wrap (g * ws.getD j.toNat (0 : Int)))) + b then (1 : Int) else (0 : Int))))), (101, (.lst false 64 ws.length (lim ws))), (102, (.val (.int .i64 n))), (103, (.val (.int .i64 (j + (1 : Int)))))], [(.row (.ints .u32 (us.set ((0 : Nat) + (i + j).toNat * (1 : Nat)) ((us.getD ((0 : Nat) + (i + j).toNat * (1 : Nat)) (0 : Int) + (8589934592 : Int) - IntKind.u32.wrap (IntKind.u64.wrap (c + IntKind.u64.wrap (g * ws.getD j.toNat (0 : Int)))) - b) % (4294967296 : Int)))) 64 .live), (.row (.ints .u32 qs) 64 .live)]) else none) else none) else none) else none) else none) else none) else none) else none) else none) else none) else some ((.exit 2), slots 194 [(0, (.sl false 64 0 0 us.length)), (1, (.lst false 64 vs.length (lim vs))), (2, (.val (.int .i64 i))), (7, (.val (.int .i64 k))), (9, (.val (.int .u64 g))), (11, (.val (.int .u64 c))), (12, (.val (.int .u32 b))), (101, (.lst false 64 ws.length (lim ws))), (102, (.val (.int .i64 n))), (103, (.val (.int .i64 j)))], [(.row (.ints .u32 us) 64 .live), (.row (.ints .u32 qs) 64 .live)])) := by kernel_rfl
theorem step_ms {us : List Int} {vs : List Int} {i : Int} {k : Int} {g : Int} {c : Int} {b : Int} {ws : List Int} {n : Int} {j : Int} {qs : List Int} {e : Ex} {T : List AV} {H : Hp} (h : roundB Try.prog E32 2 80 [0, 1, 2, 7, 9, 11, 12, 101, 102, 103] (lb 80 p_ms) (false :: p_ms) (sh_ms us vs i k g c b ws n j qs) (hp_ms us vs i k g c b ws n j qs) = some (e, T, H)) : V.Ends Try.prog false 2 0 (lb 80 p_ms) (sh_ms us vs i k g c b ws n j qs) (hp_ms us vs i k g c b ws n j qs) e T H :=
  round_endsB E32_ok loops_none mixed code_ms h
def pre_ms (us vs : List Int) (i k g c b : Int) (ws : List Int) (n j : Int) (qs : List Int) : Prop := ∃ I G : Nat, i = I ∧ g = G ∧ G < 4294967296 ∧ okL us ∧ okL ws ∧ us.length ≤ 17592186044416 ∧ I + ws.length < us.length ∧ c = 0 ∧ b = 0 ∧ n = ws.length ∧ j = 0
def post_ms (us vs : List Int) (i k g c b : Int) (ws : List Int) (n j : Int) (qs : List Int) (r : List Int × Int × Int × Int) : Prop := ∃ c' b' : Nat, r.2.1 = c' ∧ r.2.2.1 = b' ∧ c' < 4294967296 ∧ b' ≤ 1 ∧ okL r.1 ∧ r.1.length = us.length ∧ r.1.drop (i.toNat + ws.length) = us.drop (i.toNat + ws.length) ∧ vL r.1 + 4294967296 ^ i.toNat * (g.toNat * vL ws) = vL us + 4294967296 ^ (i.toNat + ws.length) * (c' + b')
theorem ms_go (vs ws qs : List Int) (k : Int) (hv : okL ws) (i g : Nat) (hg : g < 4294967296) (d : Nat) : ∀ (j c b T : Nat) (us : List Int), j + d = ws.length → okL us → us.length ≤ 17592186044416 → i + ws.length < us.length → c < 4294967296 → b ≤ 1 →
    Aside0 (vL us + 4294967296 ^ i * (g * vL (ws.take j)) = T + 4294967296 ^ (i + j) * (c + b)) →
    ∃ r : List Int × Int × Int × Int, LoopToB Try.prog 2 (lb 80 p_ms) (sh_ms us vs i k g c b ws ws.length j qs) (hp_ms us vs i k g c b ws ws.length j qs) (.exit 2) (sh_ms r.1 vs i k g r.2.1 r.2.2.1 ws ws.length r.2.2.2 qs) (hp_ms r.1 vs i k g r.2.1 r.2.2.1 ws ws.length r.2.2.2 qs) ∧
      ∃ c' b' : Nat, r.2.1 = c' ∧ r.2.2.1 = b' ∧ c' < 4294967296 ∧ b' ≤ 1 ∧ okL r.1 ∧ r.1.length = us.length ∧ r.1.drop (i + ws.length) = us.drop (i + ws.length) ∧ vL r.1 + 4294967296 ^ i * (g * vL ws) = T + 4294967296 ^ (i + ws.length) * (c' + b') := by
  induction d with
  | zero =>
    intro j c b T us hj hok hbu hiu hc hb hT
    have hj' : j = ws.length := by omega
    subst hj'
    refine ⟨(us, (c : Int), (b : Int), (ws.length : Int)), .last (step_ms ?_) (by intro h; cases h), c, b, rfl, rfl, hc, hb, hok, rfl, rfl, ?_⟩
    · rw [round_ms, dF (show ¬ ((ws.length : Int) < ws.length) by omega)]
      rfl
    · have := hT.out
      rw [List.take_length] at this
      exact this
  | succ d ih =>
    intro j c b T us hj hok hbu hiu hc hb HT
    have hjv : j < ws.length := by omega
    have hij : i + j < us.length := by omega
    obtain ⟨y, hy, hey, hry⟩ := getD_limb hv j hjv
    obtain ⟨x, hx, hex, hrx⟩ := getD_limb hok (i + j) hij
    have HS := Aside0.mk (vL_take_succ ws j hjv)
    rw [hey, Int.toNat_natCast] at HS
    have hgy : g * y ≤ 4294967295 * 4294967295 := Nat.mul_le_mul (by omega) (by omega)
    have hc' : (c + g * y) / 4294967296 < 4294967296 := by omega
    have hlo : (c + g * y) % 4294967296 < 4294967296 := Nat.mod_lt _ (by decide)
    have hD : (x + 8589934592 - (c + g * y) % 4294967296 - b) % 4294967296 + (c + g * y) % 4294967296 + b = x + 4294967296 * (if x < (c + g * y) % 4294967296 + b then 1 else 0) := by
      generalize (c + g * y) % 4294967296 = z at *
      split <;> omega
    have eb : (if (x : Int) < (((c + g * y) % 4294967296 : Nat) : Int) + (b : Int) then (1 : Int) else 0) = ((if x < (c + g * y) % 4294967296 + b then 1 else 0 : Nat) : Int) := by
      generalize (c + g * y) % 4294967296 = z at *
      split <;> split <;> omega
    have ed : ((x : Int) + 8589934592 - (((c + g * y) % 4294967296 : Nat) : Int) - (b : Int)) % 4294967296 = (((x + 8589934592 - (c + g * y) % 4294967296 - b) % 4294967296 : Nat) : Int) := by
      generalize (c + g * y) % 4294967296 = z at *
      omega
    have hb' : (if x < (c + g * y) % 4294967296 + b then 1 else 0 : Nat) ≤ 1 := by split <;> omega
    have hDlt : (x + 8589934592 - (c + g * y) % 4294967296 - b) % 4294967296 < 4294967296 := Nat.mod_lt _ (by decide)
    have hr := round_ms us vs i k g c b ws ws.length j qs
    have e1 : (i : Int) + (j : Int) = ((i + j : Nat) : Int) := by omega
    rw [e1, Int.toNat_natCast, Int.toNat_natCast, Nat.zero_add, Nat.mul_one, hry, hrx, u64T (show 0 ≤ (y : Int) ∧ (y : Int) ≤ 18446744073709551615 by omega), i64L (i + j) (by omega), i64T (show -9223372036854775808 ≤ (j : Int) + 1 ∧ (j : Int) + 1 ≤ 9223372036854775807 by omega), dT (show (j : Int) < ws.length by omega), dT (show (0 : Int) ≤ (j : Int) by omega), dT (show (0 : Int) ≤ ((i + j : Nat) : Int) by omega), dT (show ((i + j : Nat) : Int) < (us.length : Int) by omega), dT hij,
      ← Int.natCast_mul g y, u64n (a := g * y) (by omega), ← Int.natCast_add c (g * y), u64n (a := c + g * y) (by omega), u32w, inU_in hx, inU_in hlo, dT (show (0 : Int) ≤ (b : Int) by omega), dT (show (b : Int) ≤ 1 by omega), fdiv32, eb, ed] at hr
    clear eb ed
    generalize hbb : (if x < (c + g * y) % 4294967296 + b then 1 else 0 : Nat) = b' at *
    generalize (x + 8589934592 - (c + g * y) % 4294967296 - b) % 4294967296 = D at *
    have HV := Aside0.mk (vL_set us (i + j) hij (D : Int))
    rw [hex, Int.toNat_natCast, Int.toNat_natCast] at HV
    obtain ⟨r, h1, c2, b2, g1, g2, g3, g4, g5, g6, g7, g8⟩ := ih (j + 1) ((c + g * y) / 4294967296) b' T (us.set (i + j) (D : Int)) (by omega) (okL_set hok _ _ (Int.natCast_nonneg _) (Int.ofNat_lt.2 hDlt)) (by rw [List.length_set]; exact hbu) (by rw [List.length_set]; exact hiu) hc' hb' (by
      have hT := HT.out
      have hS := HS.out
      have hV := HV.out
      constructor
      rw [hS, show i + (j + 1) = (i + j) + 1 from rfl, Nat.pow_succ]
      have e1 : 4294967296 ^ i * (g * (vL (ws.take j) + 4294967296 ^ j * y)) = 4294967296 ^ i * (g * vL (ws.take j)) + 4294967296 ^ (i + j) * (g * y) := by rw [Nat.pow_add]; grind
      have e2 : 4294967296 ^ (i + j) * ((c + g * y) % 4294967296) + 4294967296 ^ (i + j) * 4294967296 * ((c + g * y) / 4294967296) = 4294967296 ^ (i + j) * (c + g * y) := by
        rw [Nat.mul_assoc, ← Nat.mul_add, Nat.mod_add_div]
      have e3 := congrArg (4294967296 ^ (i + j) * ·) hD
      simp only [Nat.mul_add] at e1 e2 e3 hT ⊢
      rw [← Nat.mul_assoc] at e3
      generalize 4294967296 ^ i * (g * (4294967296 ^ j * y)) = a6 at *
      generalize 4294967296 ^ (i + j) * ((c + g * y) % 4294967296) = a1 at *
      generalize 4294967296 ^ (i + j) * 4294967296 * ((c + g * y) / 4294967296) = a2 at *
      generalize 4294967296 ^ (i + j) * 4294967296 * b' = a3 at *
      generalize 4294967296 ^ (i + j) * (g * y) = a4 at *
      generalize 4294967296 ^ i * (g * vL (ws.take j)) = a5 at *
      omega)
    refine ⟨r, .more (step_ms ?_) h1, c2, b2, g1, g2, g3, g4, g5, by rw [g6, List.length_set], by rw [g7, List.drop_set_of_lt (by omega)], g8⟩
    clear h1 g8 ih HT HS HV
    rw [hr]
    unfold sh_ms hp_ms
    rw [List.length_set]
    rfl
theorem loop_ms (us vs : List Int) (i k g c b : Int) (ws : List Int) (n j : Int) (qs : List Int) (h : pre_ms us vs i k g c b ws n j qs) : ∃ r : List Int × Int × Int × Int, LoopToB Try.prog 2 (lb 80 p_ms) (sh_ms us vs i k g c b ws n j qs) (hp_ms us vs i k g c b ws n j qs) (.exit 2) (sh_ms r.1 vs i k g r.2.1 r.2.2.1 ws n r.2.2.2 qs) (hp_ms r.1 vs i k g r.2.1 r.2.2.1 ws n r.2.2.2 qs) ∧ post_ms us vs i k g c b ws n j qs r := by
  obtain ⟨i, g, rfl, rfl, hg, hu, hw, hb, hi, rfl, rfl, rfl, rfl⟩ := h
  unfold post_ms
  rw [Int.toNat_natCast, Int.toNat_natCast]
  exact ms_go vs ws qs k hw i g hg ws.length 0 0 0 (vL us) us (by omega) hu hb hi (by omega) (by omega) ⟨by rw [List.take_zero, vL_nil]; simp⟩
def told_ms (κ : List Int → List Int → Int → Int → Int → Int → Int → List Int → Int → Int → List Int → Bool) (φ : List Int → List Int → Int → Int → Int → Int → Int → List Int → Int → Int → List Int → List Int × Int × Int × Int) (T : List AV) (H : Hp) : Option (Bool × Ex × List AV × Hp) :=
  match lget T 0, lget T 1, lget T 2, lget T 7, lget T 9, lget T 11, lget T 12, lget T 101, lget T 102, lget T 103, H with
  | .sl false 64 0 0 m_us, .lst false 64 m_vs f_vs, .val (.int .i64 i), .val (.int .i64 k), .val (.int .u64 g), .val (.int .u64 c), .val (.int .u32 b), .lst false 64 m_ws f_ws, .val (.int .i64 n), .val (.int .i64 j), [.row (.ints .u32 us) 64 .live, .row (.ints .u32 qs) 64 .live] => bif T.length == 194 then some (okB m_vs f_vs && okB m_ws f_ws && decide (m_us = us.length) && κ us (rowOf m_vs f_vs) i k g c b (rowOf m_ws f_ws) n j qs, .exit 2, sh_ms ((φ us (rowOf m_vs f_vs) i k g c b (rowOf m_ws f_ws) n j qs).1) (rowOf m_vs f_vs) i k g ((φ us (rowOf m_vs f_vs) i k g c b (rowOf m_ws f_ws) n j qs).2.1) ((φ us (rowOf m_vs f_vs) i k g c b (rowOf m_ws f_ws) n j qs).2.2.1) (rowOf m_ws f_ws) n ((φ us (rowOf m_vs f_vs) i k g c b (rowOf m_ws f_ws) n j qs).2.2.2) qs, hp_ms ((φ us (rowOf m_vs f_vs) i k g c b (rowOf m_ws f_ws) n j qs).1) (rowOf m_vs f_vs) i k g ((φ us (rowOf m_vs f_vs) i k g c b (rowOf m_ws f_ws) n j qs).2.1) ((φ us (rowOf m_vs f_vs) i k g c b (rowOf m_ws f_ws) n j qs).2.2.1) (rowOf m_ws f_ws) n ((φ us (rowOf m_vs f_vs) i k g c b (rowOf m_ws f_ws) n j qs).2.2.2) qs) else none
  | _, _, _, _, _, _, _, _, _, _, _ => none
abbrev KT_ms : Type := List Int → List Int → Int → Int → Int → Int → Int → List Int → Int → Int → List Int → Bool
abbrev FT_ms : Type := List Int → List Int → Int → Int → Int → Int → Int → List Int → Int → Int → List Int → List Int × Int × Int × Int
def LL_ms (κ : KT_ms) (φ : FT_ms) (L : LTab) : LTab := addLn 2 80 p_ms [0, 1, 2, 7, 9, 11, 12, 101, 102, 103] (told_ms κ φ) L
def phi_ms (us : List Int) (vs : List Int) (i : Int) (k : Int) (g : Int) (c : Int) (b : Int) (ws : List Int) (n : Int) (j : Int) (qs : List Int) : List Int × Int × Int × Int := Classical.epsilon fun ρ => LoopToB Try.prog 2 (lb 80 p_ms) (sh_ms us vs i k g c b ws n j qs) (hp_ms us vs i k g c b ws n j qs) (.exit 2) (sh_ms (ρ.1) vs i k g (ρ.2.1) (ρ.2.2.1) ws n (ρ.2.2.2) qs) (hp_ms (ρ.1) vs i k g (ρ.2.1) (ρ.2.2.1) ws n (ρ.2.2.2) qs) ∧ post_ms us vs i k g c b ws n j qs ρ
theorem phi_ms_spec (us : List Int) (vs : List Int) (i : Int) (k : Int) (g : Int) (c : Int) (b : Int) (ws : List Int) (n : Int) (j : Int) (qs : List Int) (h : pre_ms us vs i k g c b ws n j qs) : LoopToB Try.prog 2 (lb 80 p_ms) (sh_ms us vs i k g c b ws n j qs) (hp_ms us vs i k g c b ws n j qs) (.exit 2) (sh_ms ((phi_ms us vs i k g c b ws n j qs).1) vs i k g ((phi_ms us vs i k g c b ws n j qs).2.1) ((phi_ms us vs i k g c b ws n j qs).2.2.1) ws n ((phi_ms us vs i k g c b ws n j qs).2.2.2) qs) (hp_ms ((phi_ms us vs i k g c b ws n j qs).1) vs i k g ((phi_ms us vs i k g c b ws n j qs).2.1) ((phi_ms us vs i k g c b ws n j qs).2.2.1) ws n ((phi_ms us vs i k g c b ws n j qs).2.2.2) qs) ∧ post_ms us vs i k g c b ws n j qs (phi_ms us vs i k g c b ws n j qs) := Classical.epsilon_spec (loop_ms us vs i k g c b ws n j qs h)
def cond_ms (us : List Int) (vs : List Int) (i : Int) (k : Int) (g : Int) (c : Int) (b : Int) (ws : List Int) (n : Int) (j : Int) (qs : List Int) : Bool := @decide (pre_ms us vs i k g c b ws n j qs) (Classical.propDecidable _)
theorem cond_ms_eq (us : List Int) (vs : List Int) (i : Int) (k : Int) (g : Int) (c : Int) (b : Int) (ws : List Int) (n : Int) (j : Int) (qs : List Int) (h : pre_ms us vs i k g c b ws n j qs) : cond_ms us vs i k g c b ws n j qs = true := @decide_eq_true _ (Classical.propDecidable _) h
theorem told_ms_ok (T : List AV) (H : Hp) (e : Ex) (T1 : List AV) (H1 : Hp) (h : told_ms cond_ms phi_ms T H = some (true, e, T1, H1)) : V.Ends Try.prog false 2 0 (.loop (lb 80 p_ms)) T H e T1 H1 := by
  unfold told_ms at h
  split at h
  · rename_i m_us m_vs f_vs i k g c b m_ws f_ws n j us qs h0 h1 h2 h7 h9 h11 h12 h101 h102 h103
    rw [Bool.cond_eq_ite] at h
    split at h
    · rename_i hlen
      rw [beq_iff_eq] at hlen
      simp only [Option.some.injEq, Prod.mk.injEq, Bool.and_eq_true, decide_eq_true_eq] at h
      obtain ⟨⟨⟨⟨k1, k2⟩, k3⟩, k4⟩, rfl, rfl, rfl⟩ := h
      have kc := @of_decide_eq_true _ (Classical.propDecidable _) k4
      refine Ends.pre (phi_ms_spec us (rowOf m_vs f_vs) i k g c b (rowOf m_ws f_ws) n j qs kc).1.ends (fun α B w D ys hr => slots_rel hlen (fun p hp y hy => ?_) hr)
      simp only [List.mem_cons, List.not_mem_nil, or_false] at hp
      rcases hp with rfl | rfl | rfl | rfl | rfl | rfl | rfl | rfl | rfl | rfl
      · rw [h0] at hy; rw [← k3]; exact hy
      · rw [h1] at hy; rw [rowOf_len]; exact row_norm cells64 k1 hy
      · rw [h2] at hy; exact hy
      · rw [h7] at hy; exact hy
      · rw [h9] at hy; exact hy
      · rw [h11] at hy; exact hy
      · rw [h12] at hy; exact hy
      · rw [h101] at hy; rw [rowOf_len]; exact row_norm cells64 k2 hy
      · rw [h102] at hy; exact hy
      · rw [h103] at hy; exact hy
    · cases h
  · cases h
theorem LL_ms_ok {L : LTab} (h : LOk Try.prog L) : LOk Try.prog (LL_ms cond_ms phi_ms L) := h.add2n body_ms told_ms_ok
abbrev p_ab : List Bool := [false, true, false, true, true, true, true, true, true, true, true, true, true]
def sh_ab (us : List Int) (vs : List Int) (i : Int) (k : Int) (g : Int) (s : Int) (ws : List Int) (n : Int) (j : Int) (qs : List Int) : List AV := slots 194 [(0, .sl false 64 0 0 us.length), (1, .lst false 64 vs.length (lim vs)), (2, .val (.int .i64 i)), (7, .val (.int .i64 k)), (9, .val (.int .u64 g)), (15, .val (.int .u32 s)), (157, .lst false 64 ws.length (lim ws)), (158, .val (.int .i64 n)), (159, .val (.int .i64 j))]
def hp_ab (us : List Int) (vs : List Int) (i : Int) (k : Int) (g : Int) (s : Int) (ws : List Int) (n : Int) (j : Int) (qs : List Int) : Hp := [.row (.ints .u32 us) 64 .live, .row (.ints .u32 qs) 64 .live]
theorem body_ab : subC Try.prog 80 p_ab = some (.loop (lb 80 p_ab)) := by kernel_rfl
theorem code_ab : subC Try.prog 80 (false :: p_ab) = some (lb 80 p_ab) := by kernel_rfl
theorem round_ab  (us : List Int) (vs : List Int) (i : Int) (k : Int) (g : Int) (s : Int) (ws : List Int) (n : Int) (j : Int) (qs : List Int) : roundB Try.prog EAd 2 80 [0, 1, 2, 7, 9, 15, 157, 158, 159] (lb 80 p_ab) (false :: p_ab) (sh_ab us vs i k g s ws n j qs) (hp_ab us vs i k g s ws n j qs) =
    (bif decide (j < n) then (bif decide ((0 : Int) ≤ j) && decide (j < (↑ws.length : Int)) then (bif inR IntKind.i64 (i + j) then (bif inR IntKind.i64 (i + j) then (bif decide ((0 : Int) ≤ i + j) && decide (i + j < (↑us.length : Int)) then (bif decide ((0 : Nat) + (i + j).toNat * (1 : Nat) < us.length) then (bif inU (us.getD ((0 : Nat) + (i + j).toNat * (1 : Nat)) (0 : Int)) && inU (ws.getD j.toNat (0 : Int)) && inU s && decide (s ≤ (1 : Int)) then (bif decide ((0 : Int) ≤ i + j) && decide (i + j < (↑us.length : Int)) then (bif decide ((0 : Nat) + (i + j).toNat * (1 : Nat) < us.length) then (bif inR IntKind.i64 (j + (1 : Int)) then some (.normal, slots 194 [(0, (.sl false 64 0 0 us.length)), (1, (.lst false 64 vs.length (lim vs))), (2, (.val (.int .i64 i))), (7, (.val (.int .i64 k))), (9, (.val (.int .u64 g))), (15, (.val (.int .u32 ((us.getD ((0 : Nat) + (i + j).toNat * (1 : Nat)) (0 : Int) + ws.getD j.toNat (0 : Int) + s) / (4294967296 : Int))))), (157, (.lst false 64 ws.length (lim ws))), (158, (.val (.int .i64 n))), (159, (.val (.int .i64 (j + (1 : Int)))))], [(.row (.ints .u32 (us.set ((0 : Nat) + (i + j).toNat * (1 : Nat)) ((us.getD ((0 : Nat) + (i + j).toNat * (1 : Nat)) (0 : Int) + ws.getD j.toNat (0 : Int) + s) % (4294967296 : Int)))) 64 .live), (.row (.ints .u32 qs) 64 .live)]) else none) else none) else none) else none) else none) else none) else none) else none) else none) else some ((.exit 4), slots 194 [(0, (.sl false 64 0 0 us.length)), (1, (.lst false 64 vs.length (lim vs))), (2, (.val (.int .i64 i))), (7, (.val (.int .i64 k))), (9, (.val (.int .u64 g))), (15, (.val (.int .u32 s))), (157, (.lst false 64 ws.length (lim ws))), (158, (.val (.int .i64 n))), (159, (.val (.int .i64 j)))], [(.row (.ints .u32 us) 64 .live), (.row (.ints .u32 qs) 64 .live)])) := by kernel_rfl
theorem step_ab {us : List Int} {vs : List Int} {i : Int} {k : Int} {g : Int} {s : Int} {ws : List Int} {n : Int} {j : Int} {qs : List Int} {e : Ex} {T : List AV} {H : Hp} (h : roundB Try.prog EAd 2 80 [0, 1, 2, 7, 9, 15, 157, 158, 159] (lb 80 p_ab) (false :: p_ab) (sh_ab us vs i k g s ws n j qs) (hp_ab us vs i k g s ws n j qs) = some (e, T, H)) : V.Ends Try.prog false 2 0 (lb 80 p_ab) (sh_ab us vs i k g s ws n j qs) (hp_ab us vs i k g s ws n j qs) e T H :=
  round_endsB EAd_ok loops_none mixed code_ab h
def pre_ab (us vs : List Int) (i k g s : Int) (ws : List Int) (n j : Int) (qs : List Int) : Prop := ∃ I : Nat, i = I ∧ okL us ∧ okL ws ∧ us.length ≤ 17592186044416 ∧ I + ws.length < us.length ∧ s = 0 ∧ n = ws.length ∧ j = 0
def post_ab (us vs : List Int) (i k g s : Int) (ws : List Int) (n j : Int) (qs : List Int) (r : List Int × Int × Int) : Prop := ∃ s' : Nat, r.2.1 = s' ∧ s' ≤ 1 ∧ okL r.1 ∧ r.1.length = us.length ∧ r.1.drop (i.toNat + ws.length) = us.drop (i.toNat + ws.length) ∧ vL r.1 + 4294967296 ^ (i.toNat + ws.length) * s' = vL us + 4294967296 ^ i.toNat * vL ws
theorem ab_go (vs ws qs : List Int) (k g : Int) (hv : okL ws) (i : Nat) (d : Nat) : ∀ (j s T : Nat) (us : List Int), j + d = ws.length → okL us → us.length ≤ 17592186044416 → i + ws.length < us.length → s ≤ 1 →
    Aside0 (vL us + 4294967296 ^ (i + j) * s = T + 4294967296 ^ i * vL (ws.take j)) →
    ∃ r : List Int × Int × Int, LoopToB Try.prog 2 (lb 80 p_ab) (sh_ab us vs i k g s ws ws.length j qs) (hp_ab us vs i k g s ws ws.length j qs) (.exit 4) (sh_ab r.1 vs i k g r.2.1 ws ws.length r.2.2 qs) (hp_ab r.1 vs i k g r.2.1 ws ws.length r.2.2 qs) ∧
      ∃ s' : Nat, r.2.1 = s' ∧ s' ≤ 1 ∧ okL r.1 ∧ r.1.length = us.length ∧ r.1.drop (i + ws.length) = us.drop (i + ws.length) ∧ vL r.1 + 4294967296 ^ (i + ws.length) * s' = T + 4294967296 ^ i * vL ws := by
  induction d with
  | zero =>
    intro j s T us hj hok hbu hiu hs hT
    have hj' : j = ws.length := by omega
    subst hj'
    refine ⟨(us, (s : Int), (ws.length : Int)), .last (step_ab ?_) (by intro h; cases h), s, rfl, hs, hok, rfl, rfl, ?_⟩
    · rw [round_ab, dF (show ¬ ((ws.length : Int) < ws.length) by omega)]
      rfl
    · have := hT.out
      rw [List.take_length] at this
      exact this
  | succ d ih =>
    intro j s T us hj hok hbu hiu hs HT
    have hjv : j < ws.length := by omega
    have hij : i + j < us.length := by omega
    obtain ⟨y, hy, hey, hry⟩ := getD_limb hv j hjv
    obtain ⟨x, hx, hex, hrx⟩ := getD_limb hok (i + j) hij
    have HS := Aside0.mk (vL_take_succ ws j hjv)
    rw [hey, Int.toNat_natCast] at HS
    have hlo : (x + y + s) % 4294967296 < 4294967296 := Nat.mod_lt _ (by decide)
    have hs' : (x + y + s) / 4294967296 ≤ 1 := by omega
    have HV := Aside0.mk (vL_set us (i + j) hij (((x + y + s) % 4294967296 : Nat) : Int))
    rw [hex, Int.toNat_natCast, Int.toNat_natCast] at HV
    obtain ⟨r, h1, s2, g1, g2, g3, g4, g5, g6⟩ := ih (j + 1) ((x + y + s) / 4294967296) T (us.set (i + j) (((x + y + s) % 4294967296 : Nat) : Int)) (by omega) (okL_set hok _ _ (Int.natCast_nonneg _) (Int.ofNat_lt.2 hlo)) (by rw [List.length_set]; exact hbu) (by rw [List.length_set]; exact hiu) hs' (by
      have hT := HT.out
      have hS := HS.out
      have hV := HV.out
      constructor
      rw [hS, show i + (j + 1) = (i + j) + 1 from rfl, Nat.pow_succ]
      have e1 : 4294967296 ^ i * (vL (ws.take j) + 4294967296 ^ j * y) = 4294967296 ^ i * vL (ws.take j) + 4294967296 ^ (i + j) * y := by rw [Nat.pow_add]; grind
      have e2 : 4294967296 ^ (i + j) * ((x + y + s) % 4294967296) + 4294967296 ^ (i + j) * 4294967296 * ((x + y + s) / 4294967296) = 4294967296 ^ (i + j) * (x + y + s) := by
        rw [Nat.mul_assoc, ← Nat.mul_add, Nat.mod_add_div]
      simp only [Nat.mul_add] at e2 ⊢
      simp only [Nat.mul_add] at e1
      rw [e1]
      generalize 4294967296 ^ (i + j) * ((x + y + s) % 4294967296) = a1 at *
      generalize 4294967296 ^ (i + j) * 4294967296 * ((x + y + s) / 4294967296) = a2 at *
      generalize 4294967296 ^ i * vL (ws.take j) = a5 at *
      omega)
    refine ⟨r, .more (step_ab ?_) h1, s2, g1, g2, g3, by rw [g4, List.length_set], by rw [g5, List.drop_set_of_lt (by omega)], g6⟩
    clear h1 g6 ih HT HS HV
    have hr := round_ab us vs i k g s ws ws.length j qs
    have e1 : (i : Int) + (j : Int) = ((i + j : Nat) : Int) := by omega
    rw [e1, Int.toNat_natCast, Int.toNat_natCast, Nat.zero_add, Nat.mul_one, hry, hrx, i64L (i + j) (by omega), i64T (show -9223372036854775808 ≤ (j : Int) + 1 ∧ (j : Int) + 1 ≤ 9223372036854775807 by omega), dT (show (j : Int) < ws.length by omega), dT (show (0 : Int) ≤ (j : Int) by omega), dT (show (0 : Int) ≤ ((i + j : Nat) : Int) by omega), dT (show ((i + j : Nat) : Int) < (us.length : Int) by omega), dT hij, inU_in hx, inU_in hy, inU_in (show s < 4294967296 by omega), dT (show (s : Int) ≤ 1 by omega)] at hr
    rw [hr]
    unfold sh_ab hp_ab
    rw [List.length_set]
    rfl
theorem loop_ab (us vs : List Int) (i k g s : Int) (ws : List Int) (n j : Int) (qs : List Int) (h : pre_ab us vs i k g s ws n j qs) : ∃ r : List Int × Int × Int, LoopToB Try.prog 2 (lb 80 p_ab) (sh_ab us vs i k g s ws n j qs) (hp_ab us vs i k g s ws n j qs) (.exit 4) (sh_ab r.1 vs i k g r.2.1 ws n r.2.2 qs) (hp_ab r.1 vs i k g r.2.1 ws n r.2.2 qs) ∧ post_ab us vs i k g s ws n j qs r := by
  obtain ⟨i, rfl, hu, hw, hb, hi, rfl, rfl, rfl⟩ := h
  unfold post_ab
  rw [Int.toNat_natCast]
  exact ab_go vs ws qs k g hw i ws.length 0 0 (vL us) us (by omega) hu hb hi (by omega) ⟨by rw [List.take_zero, vL_nil]; simp⟩
def told_ab (κ : List Int → List Int → Int → Int → Int → Int → List Int → Int → Int → List Int → Bool) (φ : List Int → List Int → Int → Int → Int → Int → List Int → Int → Int → List Int → List Int × Int × Int) (T : List AV) (H : Hp) : Option (Bool × Ex × List AV × Hp) :=
  match lget T 0, lget T 1, lget T 2, lget T 7, lget T 9, lget T 15, lget T 157, lget T 158, lget T 159, H with
  | .sl false 64 0 0 m_us, .lst false 64 m_vs f_vs, .val (.int .i64 i), .val (.int .i64 k), .val (.int .u64 g), .val (.int .u32 s), .lst false 64 m_ws f_ws, .val (.int .i64 n), .val (.int .i64 j), [.row (.ints .u32 us) 64 .live, .row (.ints .u32 qs) 64 .live] => bif T.length == 194 then some (okB m_vs f_vs && okB m_ws f_ws && decide (m_us = us.length) && κ us (rowOf m_vs f_vs) i k g s (rowOf m_ws f_ws) n j qs, .exit 4, sh_ab ((φ us (rowOf m_vs f_vs) i k g s (rowOf m_ws f_ws) n j qs).1) (rowOf m_vs f_vs) i k g ((φ us (rowOf m_vs f_vs) i k g s (rowOf m_ws f_ws) n j qs).2.1) (rowOf m_ws f_ws) n ((φ us (rowOf m_vs f_vs) i k g s (rowOf m_ws f_ws) n j qs).2.2) qs, hp_ab ((φ us (rowOf m_vs f_vs) i k g s (rowOf m_ws f_ws) n j qs).1) (rowOf m_vs f_vs) i k g ((φ us (rowOf m_vs f_vs) i k g s (rowOf m_ws f_ws) n j qs).2.1) (rowOf m_ws f_ws) n ((φ us (rowOf m_vs f_vs) i k g s (rowOf m_ws f_ws) n j qs).2.2) qs) else none
  | _, _, _, _, _, _, _, _, _, _ => none
abbrev KT_ab : Type := List Int → List Int → Int → Int → Int → Int → List Int → Int → Int → List Int → Bool
abbrev FT_ab : Type := List Int → List Int → Int → Int → Int → Int → List Int → Int → Int → List Int → List Int × Int × Int
def LL_ab (κ : KT_ab) (φ : FT_ab) (L : LTab) : LTab := addLn 2 80 p_ab [0, 1, 2, 7, 9, 15, 157, 158, 159] (told_ab κ φ) L
def phi_ab (us : List Int) (vs : List Int) (i : Int) (k : Int) (g : Int) (s : Int) (ws : List Int) (n : Int) (j : Int) (qs : List Int) : List Int × Int × Int := Classical.epsilon fun ρ => LoopToB Try.prog 2 (lb 80 p_ab) (sh_ab us vs i k g s ws n j qs) (hp_ab us vs i k g s ws n j qs) (.exit 4) (sh_ab (ρ.1) vs i k g (ρ.2.1) ws n (ρ.2.2) qs) (hp_ab (ρ.1) vs i k g (ρ.2.1) ws n (ρ.2.2) qs) ∧ post_ab us vs i k g s ws n j qs ρ
theorem phi_ab_spec (us : List Int) (vs : List Int) (i : Int) (k : Int) (g : Int) (s : Int) (ws : List Int) (n : Int) (j : Int) (qs : List Int) (h : pre_ab us vs i k g s ws n j qs) : LoopToB Try.prog 2 (lb 80 p_ab) (sh_ab us vs i k g s ws n j qs) (hp_ab us vs i k g s ws n j qs) (.exit 4) (sh_ab ((phi_ab us vs i k g s ws n j qs).1) vs i k g ((phi_ab us vs i k g s ws n j qs).2.1) ws n ((phi_ab us vs i k g s ws n j qs).2.2) qs) (hp_ab ((phi_ab us vs i k g s ws n j qs).1) vs i k g ((phi_ab us vs i k g s ws n j qs).2.1) ws n ((phi_ab us vs i k g s ws n j qs).2.2) qs) ∧ post_ab us vs i k g s ws n j qs (phi_ab us vs i k g s ws n j qs) := Classical.epsilon_spec (loop_ab us vs i k g s ws n j qs h)
def cond_ab (us : List Int) (vs : List Int) (i : Int) (k : Int) (g : Int) (s : Int) (ws : List Int) (n : Int) (j : Int) (qs : List Int) : Bool := @decide (pre_ab us vs i k g s ws n j qs) (Classical.propDecidable _)
theorem cond_ab_eq (us : List Int) (vs : List Int) (i : Int) (k : Int) (g : Int) (s : Int) (ws : List Int) (n : Int) (j : Int) (qs : List Int) (h : pre_ab us vs i k g s ws n j qs) : cond_ab us vs i k g s ws n j qs = true := @decide_eq_true _ (Classical.propDecidable _) h
theorem told_ab_ok (T : List AV) (H : Hp) (e : Ex) (T1 : List AV) (H1 : Hp) (h : told_ab cond_ab phi_ab T H = some (true, e, T1, H1)) : V.Ends Try.prog false 2 0 (.loop (lb 80 p_ab)) T H e T1 H1 := by
  unfold told_ab at h
  split at h
  · rename_i m_us m_vs f_vs i k g s m_ws f_ws n j us qs h0 h1 h2 h7 h9 h15 h157 h158 h159
    rw [Bool.cond_eq_ite] at h
    split at h
    · rename_i hlen
      rw [beq_iff_eq] at hlen
      simp only [Option.some.injEq, Prod.mk.injEq, Bool.and_eq_true, decide_eq_true_eq] at h
      obtain ⟨⟨⟨⟨k1, k2⟩, k3⟩, k4⟩, rfl, rfl, rfl⟩ := h
      have kc := @of_decide_eq_true _ (Classical.propDecidable _) k4
      refine Ends.pre (phi_ab_spec us (rowOf m_vs f_vs) i k g s (rowOf m_ws f_ws) n j qs kc).1.ends (fun α B w D ys hr => slots_rel hlen (fun p hp y hy => ?_) hr)
      simp only [List.mem_cons, List.not_mem_nil, or_false] at hp
      rcases hp with rfl | rfl | rfl | rfl | rfl | rfl | rfl | rfl | rfl
      · rw [h0] at hy; rw [← k3]; exact hy
      · rw [h1] at hy; rw [rowOf_len]; exact row_norm cells64 k1 hy
      · rw [h2] at hy; exact hy
      · rw [h7] at hy; exact hy
      · rw [h9] at hy; exact hy
      · rw [h15] at hy; exact hy
      · rw [h157] at hy; rw [rowOf_len]; exact row_norm cells64 k2 hy
      · rw [h158] at hy; exact hy
      · rw [h159] at hy; exact hy
    · cases h
  · cases h
theorem LL_ab_ok {L : LTab} (h : LOk Try.prog L) : LOk Try.prog (LL_ab cond_ab phi_ab L) := h.add2n body_ab told_ab_ok
end
end Go.Proofs.Ytlpfnbopmigefaa.L
