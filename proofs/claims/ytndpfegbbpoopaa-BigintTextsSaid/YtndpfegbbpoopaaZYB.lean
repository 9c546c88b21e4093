import Derived.Test.YtndpfegbbpoopaaZYA
import Derived.Test.YtndpfegbbpoopaaZL
set_option linter.unusedVariables false
set_option linter.unusedSimpArgs false
namespace Go.Proofs.Ytndpfegbbpoopaa.L
open Go Go.V Go.RowKit Go.Proofs.Ytndpfegbbpoopaa.Sp
open Go.Proofs (Try.prog)
noncomputable section
def okb (l : List Int) : Prop := ∀ z ∈ l, ∃ c : Nat, c < 256 ∧ z = (c : Int)
def vI (l : List Int) : Nat := l.foldl (fun n z => n * 256 + z.toNat) 0
theorem vI_snoc (l : List Int) (c : Nat) : vI (l ++ [(c : Int)]) = vI l * 256 + c := by simp [vI, List.foldl_append]
theorem okb_nil : okb [] := fun z h => by cases h
theorem okb_snoc {l : List Int} {c : Nat} (h : okb l) (hc : c < 256) : okb (l ++ [(c : Int)]) := by
  intro z hz
  rcases List.mem_append.1 hz with hz | hz
  · exact h z hz
  · rw [List.mem_singleton] at hz; exact ⟨c, hc, hz⟩
theorem okb_get {l : List Int} (h : okb l) {i : Nat} (hi : i < l.length) : ∃ c : Nat, c < 256 ∧ l[i] = (c : Int) ∧ l.getD i 0 = (c : Int) := by
  obtain ⟨c, hc, he⟩ := h l[i] (List.getElem_mem hi)
  exact ⟨c, hc, he, by rw [List.getD_eq_getElem?_getD, List.getElem?_eq_getElem hi, Option.getD_some, he]⟩
theorem set_mid (P : List Int) (x y : Int) (R : List Int) : (P ++ x :: R).set P.length y = P ++ y :: R := by
  rw [List.set_append_right _ _ (Nat.le_refl _), Nat.sub_self]; rfl
theorem get_mid (P : List Int) (x : Int) (R : List Int) : (P ++ x :: R).getD P.length 0 = x := by
  rw [List.getD_eq_getElem?_getD, List.getElem?_append_right (Nat.le_refl _), Nat.sub_self]; rfl
abbrev p_dvA : List Bool := [false, true, false, true, false, true, false, false, true, false, true, true, true, true, true]
def sh_dvA (bs : List Int) (a : Int) (r : Int) (i : Int) (b : Bool) (s : ByteArray) : List AV := slots 95 [(1, .ptr 0 0), (3, .val (.slice none 0 0)), (4, .sl false 5 1 0 bs.length), (5, .val (.int .i64 a)), (6, .val (.int .i64 r)), (7, .val (.int .i64 i))]
def hp_dvA (bs : List Int) (a : Int) (r : Int) (i : Int) (b : Bool) (s : ByteArray) : Hp := [.row (.cells [.val (.bool b), .val (.string s)]) 23 .live, .row (.ints .u8 bs) 5 .live]
theorem body_dvA : subC Try.prog 10 p_dvA = some (.loop (lb 10 p_dvA)) := by kernel_rfl
theorem code_dvA : subC Try.prog 10 (false :: p_dvA) = some (lb 10 p_dvA) := by kernel_rfl
theorem round_dvA  (bs : List Int) (a : Int) (r : Int) (i : Int) (b : Bool) (s : ByteArray) : letI q_1 := (bitI BinOp.or IntKind.i64 (r * (256 : Int)) (bs.getD ((0 : Nat) + i.toNat * (1 : Nat)) (0 : Int)));
    (roundA Try.prog EL0 10 [1, 3, 4, 5, 6, 7] (lb 10 p_dvA) (false :: p_dvA) (sh_dvA bs a r i b s) (hp_dvA bs a r i b s) = (bif decide (i < (↑bs.length : Int)) then (bif inR IntKind.i64 (r * (256 : Int)) then (bif decide ((0 : Int) ≤ i) && decide (i < (↑bs.length : Int)) then (bif decide ((0 : Nat) + i.toNat * (1 : Nat) < bs.length) then (bif inR IntKind.i64 (bs.getD ((0 : Nat) + i.toNat * (1 : Nat)) (0 : Int)) then (bif inR IntKind.i64 (q_1.tdiv (10 : Int)) then (bif decide ((0 : Int) ≤ i) && decide (i < (↑bs.length : Int)) then (bif decide ((0 : Nat) + i.toNat * (1 : Nat) < bs.length) then (bif inR IntKind.i64 (i + (1 : Int)) then some (.normal, slots 95 [(1, (.ptr 0 0)), (3, (.val (.slice .none 0 0))), (4, (.sl false 5 1 0 bs.length)), (5, (.val (.int .i64 a))), (6, (.val (.int .i64 (q_1.tmod (10 : Int))))), (7, (.val (.int .i64 (i + (1 : Int)))))], [(.row (.cells [(.val (.bool b)), (.val (.string s))]) 23 .live), (.row (.ints .u8 (bs.set ((0 : Nat) + i.toNat * (1 : Nat)) (IntKind.u8.wrap (q_1.tdiv (10 : Int))))) 5 .live)]) else none) else none) else none) else none) else none) else none) else none) else none) else some ((.exit 2), slots 95 [(1, (.ptr 0 0)), (3, (.val (.slice .none 0 0))), (4, (.sl false 5 1 0 bs.length)), (5, (.val (.int .i64 a))), (6, (.val (.int .i64 r))), (7, (.val (.int .i64 i)))], [(.row (.cells [(.val (.bool b)), (.val (.string s))]) 23 .live), (.row (.ints .u8 bs) 5 .live)]))) := by kernel_rfl
theorem step_dvA {bs : List Int} {a : Int} {r : Int} {i : Int} {b : Bool} {s : ByteArray} {e : Ex} {T : List AV} {H : Hp} (h : roundA Try.prog EL0 10 [1, 3, 4, 5, 6, 7] (lb 10 p_dvA) (false :: p_dvA) (sh_dvA bs a r i b s) (hp_dvA bs a r i b s) = some (e, T, H)) : V.Ends Try.prog false 0 0 (lb 10 p_dvA) (sh_dvA bs a r i b s) (hp_dvA bs a r i b s) e T H :=
  round_ends (meets_none _) loops_none mixed code_dvA h
def pre_dvA (bs : List Int) (a r i : Int) (b : Bool) (s : ByteArray) : Prop := okb bs ∧ r = 0 ∧ i = a ∧ ∃ m : Nat, a = m ∧ m ≤ bs.length ∧ (∀ j, j < m → bs.getD j 0 = 0) ∧ bs.length ≤ 1000000000000
def post_dvA (bs : List Int) (a r i : Int) (b : Bool) (s : ByteArray) (ρ : Int × Int × List Int) : Prop := okb ρ.2.2 ∧ ρ.2.2.length = bs.length ∧ vI ρ.2.2 = vI bs / 10 ∧ ρ.1 = ((vI bs % 10 : Nat) : Int) ∧ ∀ m : Nat, a = m → ∀ j, j < m → ρ.2.2.getD j 0 = 0
theorem dvA_go (os : List Int) (a : Int) (b : Bool) (s : ByteArray) (hos : okb os) (hl : os.length ≤ 1000000000000) (d : Nat) : ∀ (ps : List Int) (r : Nat), ps.length + d = os.length → okb ps → r < 10 → vI (os.take ps.length) = 10 * vI ps + r →
    ∃ (qs : List Int) (ρ : Int × Int × List Int), LoopTo Try.prog (lb 10 p_dvA) (sh_dvA (ps ++ os.drop ps.length) a r ps.length b s) (hp_dvA (ps ++ os.drop ps.length) a r ps.length b s) (.exit 2) (sh_dvA ρ.2.2 a ρ.1 ρ.2.1 b s) (hp_dvA ρ.2.2 a ρ.1 ρ.2.1 b s) ∧ ρ.2.2 = ps ++ qs ∧ okb ρ.2.2 ∧ ρ.2.2.length = os.length ∧ ∃ r' : Nat, r' < 10 ∧ ρ.1 = r' ∧ vI os = 10 * vI ρ.2.2 + r' := by
  induction d with
  | zero =>
    intro ps r hd hp hr hv
    have e : ps.length = os.length := by omega
    rw [e, List.take_length] at hv
    refine ⟨[], ((r : Int), ((ps.length : Nat) : Int), ps), .last (step_dvA ?_) (by intro h; cases h), (List.append_nil ps).symm, hp, e, r, hr, rfl, hv⟩
    rw [e, List.drop_length, List.append_nil, round_dvA, dF (show ¬ ((os.length : Nat) : Int) < (ps.length : Int) by omega)]
    rfl
  | succ d ih =>
    intro ps r hd hp hr hv
    have hil : ps.length < os.length := by omega
    obtain ⟨c, hc, he, _⟩ := okb_get hos hil
    have hdrop : os.drop ps.length = (c : Int) :: os.drop (ps.length + 1) := by rw [List.drop_eq_getElem_cons hil, he]
    have hlen : (ps ++ (c : Int) :: os.drop (ps.length + 1)).length = os.length := by rw [List.length_append, List.length_cons, List.length_drop]; omega
    have hr0 := round_dvA (ps ++ (c : Int) :: os.drop (ps.length + 1)) a r ps.length b s
    have hq : ((r * 256 + c : Nat) : Int).tdiv 10 = (((r * 256 + c) / 10 : Nat) : Int) := rfl
    have hm : ((r * 256 + c : Nat) : Int).tmod 10 = (((r * 256 + c) % 10 : Nat) : Int) := rfl
    have hu : IntKind.u8.wrap ((((r * 256 + c) / 10 : Nat) : Int)) = (((r * 256 + c) / 10 : Nat) : Int) := by rw [IntKind.wrap_u8]; omega
    rw [hlen, Int.toNat_natCast, Nat.mul_one, Nat.zero_add, get_mid, or_i64 r c (by omega) hc, hq, hm, hu, set_mid, dT (show ((ps.length : Nat) : Int) < (os.length : Int) by omega), i64T (z := (r : Int) * 256) (by omega), dT (show (0 : Int) ≤ ((ps.length : Nat) : Int) by omega), dT hil, i64T (z := (c : Int)) (by omega), i64T (z := (((r * 256 + c) / 10 : Nat) : Int)) (by omega), i64T (z := ((ps.length : Nat) : Int) + 1) (by omega)] at hr0
    have h1 : vI (os.take (ps ++ [(((r * 256 + c) / 10 : Nat) : Int)]).length) = 10 * vI (ps ++ [(((r * 256 + c) / 10 : Nat) : Int)]) + (r * 256 + c) % 10 := by
      rw [List.length_append, show [(((r * 256 + c) / 10 : Nat) : Int)].length = 1 from rfl, List.take_succ_eq_append_getElem hil, he, vI_snoc, vI_snoc, hv]
      omega
    obtain ⟨qs, ρ, g1, g2, g3⟩ := ih (ps ++ [(((r * 256 + c) / 10 : Nat) : Int)]) ((r * 256 + c) % 10) (by rw [List.length_append]; show ps.length + 1 + d = _; omega) (okb_snoc hp (by omega)) (by omega) h1
    refine ⟨(((r * 256 + c) / 10 : Nat) : Int) :: qs, ρ, ?_, by rw [g2, List.append_assoc]; rfl, g3⟩
    rw [hdrop]
    refine .more (step_dvA (hr0.trans ?_)) g1
    unfold sh_dvA hp_dvA
    rw [show (ps ++ [(((r * 256 + c) / 10 : Nat) : Int)]).length = ps.length + 1 by rw [List.length_append]; rfl, List.append_assoc, show [(((r * 256 + c) / 10 : Nat) : Int)] ++ os.drop (ps.length + 1) = (((r * 256 + c) / 10 : Nat) : Int) :: os.drop (ps.length + 1) from rfl, show (ps ++ (((r * 256 + c) / 10 : Nat) : Int) :: os.drop (ps.length + 1)).length = os.length by rw [List.length_append, List.length_cons, List.length_drop]; omega]
    rfl
theorem loop_dvA (bs : List Int) (a r i : Int) (b : Bool) (s : ByteArray) (h : pre_dvA bs a r i b s) : ∃ ρ : Int × Int × List Int, LoopTo Try.prog (lb 10 p_dvA) (sh_dvA bs a r i b s) (hp_dvA bs a r i b s) (.exit 2) (sh_dvA ρ.2.2 a ρ.1 ρ.2.1 b s) (hp_dvA ρ.2.2 a ρ.1 ρ.2.1 b s) ∧ post_dvA bs a r i b s ρ := by
  obtain ⟨h1, rfl, rfl, m, rfl, hm, h0, hl⟩ := h
  have hz : vI (bs.take m) = 0 ∧ okb (bs.take m) := by
    refine ⟨?_, fun z hz => h1 z (List.mem_of_mem_take hz)⟩
    clear h1 hl
    induction m with
    | zero => rfl
    | succ m ih =>
      have := h0 m (by omega)
      rw [List.getD_eq_getElem?_getD, List.getElem?_eq_getElem (show m < bs.length by omega), Option.getD_some] at this
      rw [List.take_succ_eq_append_getElem (by omega), this, show (0 : Int) = ((0 : Nat) : Int) from rfl, vI_snoc, ih (by omega) (fun j hj => h0 j (by omega))]
  have hlen : (bs.take m).length = m := by rw [List.length_take]; omega
  obtain ⟨qs, ρ, g1, g2, g3, g4, r', g5, g6, g7⟩ := dvA_go bs (m : Int) b s h1 hl (bs.length - m) (bs.take m) 0 (by rw [hlen]; omega) hz.2 (by decide) (by rw [hlen, hz.1])
  rw [hlen, List.take_append_drop] at g1
  refine ⟨ρ, g1, g3, g4, by omega, by rw [g6]; omega, fun m' e j hj => ?_⟩
  have e : m' = m := by omega
  subst e
  rw [g2, List.getD_eq_getElem?_getD, List.getElem?_append_left (by rw [hlen]; exact hj), List.getElem?_take, if_pos hj, ← List.getD_eq_getElem?_getD]
  exact h0 j hj
def told_dvA (κ : List Int → Int → Int → Int → Bool → ByteArray → Bool) (φ : List Int → Int → Int → Int → Bool → ByteArray → Int × Int × List Int) (T : List AV) (H : Hp) : Option (Bool × Ex × List AV × Hp) :=
  match lget T 1, lget T 3, lget T 4, lget T 5, lget T 6, lget T 7, H with
  | .ptr 0 0, .val (.slice none 0 0), .sl false 5 1 0 m_bs, .val (.int .i64 a), .val (.int .i64 r), .val (.int .i64 i), [.row (.cells [.val (.bool b), .val (.string s)]) 23 .live, .row (.ints .u8 bs) 5 .live] => bif T.length == 95 then some (decide (m_bs = bs.length) && κ bs a r i b s, .exit 2, sh_dvA ((φ bs a r i b s).2.2) a ((φ bs a r i b s).1) ((φ bs a r i b s).2.1) b s, hp_dvA ((φ bs a r i b s).2.2) a ((φ bs a r i b s).1) ((φ bs a r i b s).2.1) b s) else none
  | _, _, _, _, _, _, _ => none
abbrev KT_dvA : Type := List Int → Int → Int → Int → Bool → ByteArray → Bool
abbrev FT_dvA : Type := List Int → Int → Int → Int → Bool → ByteArray → Int × Int × List Int
def LL_dvA (κ : KT_dvA) (φ : FT_dvA) (L : LTab) : LTab := addLn 0 10 p_dvA [1, 3, 4, 5, 6, 7] (told_dvA κ φ) L
def phi_dvA (bs : List Int) (a : Int) (r : Int) (i : Int) (b : Bool) (s : ByteArray) : Int × Int × List Int := Classical.epsilon fun ρ => LoopTo Try.prog (lb 10 p_dvA) (sh_dvA bs a r i b s) (hp_dvA bs a r i b s) (.exit 2) (sh_dvA (ρ.2.2) a (ρ.1) (ρ.2.1) b s) (hp_dvA (ρ.2.2) a (ρ.1) (ρ.2.1) b s) ∧ post_dvA bs a r i b s ρ
theorem phi_dvA_spec (bs : List Int) (a : Int) (r : Int) (i : Int) (b : Bool) (s : ByteArray) (h : pre_dvA bs a r i b s) : LoopTo Try.prog (lb 10 p_dvA) (sh_dvA bs a r i b s) (hp_dvA bs a r i b s) (.exit 2) (sh_dvA ((phi_dvA bs a r i b s).2.2) a ((phi_dvA bs a r i b s).1) ((phi_dvA bs a r i b s).2.1) b s) (hp_dvA ((phi_dvA bs a r i b s).2.2) a ((phi_dvA bs a r i b s).1) ((phi_dvA bs a r i b s).2.1) b s) ∧ post_dvA bs a r i b s (phi_dvA bs a r i b s) := Classical.epsilon_spec (loop_dvA bs a r i b s h)
def cond_dvA (bs : List Int) (a : Int) (r : Int) (i : Int) (b : Bool) (s : ByteArray) : Bool := @decide (pre_dvA bs a r i b s) (Classical.propDecidable _)
theorem cond_dvA_eq (bs : List Int) (a : Int) (r : Int) (i : Int) (b : Bool) (s : ByteArray) (h : pre_dvA bs a r i b s) : cond_dvA bs a r i b s = true := @decide_eq_true _ (Classical.propDecidable _) h
theorem told_dvA_ok (T : List AV) (H : Hp) (e : Ex) (T1 : List AV) (H1 : Hp) (h : told_dvA cond_dvA phi_dvA T H = some (true, e, T1, H1)) : V.Ends Try.prog false 0 0 (.loop (lb 10 p_dvA)) T H e T1 H1 := by
  unfold told_dvA at h
  split at h
  · rename_i m_bs a r i b s bs h1 h3 h4 h5 h6 h7
    rw [Bool.cond_eq_ite] at h
    split at h
    · rename_i hlen
      rw [beq_iff_eq] at hlen
      simp only [Option.some.injEq, Prod.mk.injEq, Bool.and_eq_true, decide_eq_true_eq] at h
      obtain ⟨⟨k1, k2⟩, rfl, rfl, rfl⟩ := h
      have kc := @of_decide_eq_true _ (Classical.propDecidable _) k2
      refine Ends.pre (phi_dvA_spec bs a r i b s kc).1.ends (fun α B w D ys hr => slots_rel hlen (fun p hp y hy => ?_) hr)
      simp only [List.mem_cons, List.not_mem_nil, or_false] at hp
      rcases hp with rfl | rfl | rfl | rfl | rfl | rfl
      · rw [h1] at hy; exact hy
      · rw [h3] at hy; exact hy
      · rw [h4] at hy; rw [← k1]; exact hy
      · rw [h5] at hy; exact hy
      · rw [h6] at hy; exact hy
      · rw [h7] at hy; exact hy
    · cases h
  · cases h
theorem LL_dvA_ok {L : LTab} (h : LOk Try.prog L) : LOk Try.prog (LL_dvA cond_dvA phi_dvA L) := h.add2n body_dvA told_dvA_ok
abbrev p_dvB : List Bool := [false, true, false, true, false, true, false, false, true, false, true, true, true, true, true]
def sh_dvB (zs : List Int) (bs : List Int) (a : Int) (r : Int) (i : Int) (b : Bool) (s : ByteArray) : List AV := slots 95 [(1, .ptr 0 0), (3, .sl false 5 1 0 zs.length), (4, .sl false 5 2 0 bs.length), (5, .val (.int .i64 a)), (6, .val (.int .i64 r)), (7, .val (.int .i64 i))]
def hp_dvB (zs : List Int) (bs : List Int) (a : Int) (r : Int) (i : Int) (b : Bool) (s : ByteArray) : Hp := [.row (.cells [.val (.bool b), .val (.string s)]) 23 .live, .row (.ints .u8 zs) 5 .live, .row (.ints .u8 bs) 5 .live]
theorem body_dvB : subC Try.prog 10 p_dvB = some (.loop (lb 10 p_dvB)) := by kernel_rfl
theorem code_dvB : subC Try.prog 10 (false :: p_dvB) = some (lb 10 p_dvB) := by kernel_rfl
theorem round_dvB  (zs : List Int) (bs : List Int) (a : Int) (r : Int) (i : Int) (b : Bool) (s : ByteArray) : letI q_1 := (bitI BinOp.or IntKind.i64 (r * (256 : Int)) (bs.getD ((0 : Nat) + i.toNat * (1 : Nat)) (0 : Int)));
    (roundA Try.prog EL0 10 [1, 3, 4, 5, 6, 7] (lb 10 p_dvB) (false :: p_dvB) (sh_dvB zs bs a r i b s) (hp_dvB zs bs a r i b s) = (bif decide (i < (↑bs.length : Int)) then (bif inR IntKind.i64 (r * (256 : Int)) then (bif decide ((0 : Int) ≤ i) && decide (i < (↑bs.length : Int)) then (bif decide ((0 : Nat) + i.toNat * (1 : Nat) < bs.length) then (bif inR IntKind.i64 (bs.getD ((0 : Nat) + i.toNat * (1 : Nat)) (0 : Int)) then (bif inR IntKind.i64 (q_1.tdiv (10 : Int)) then (bif decide ((0 : Int) ≤ i) && decide (i < (↑bs.length : Int)) then (bif decide ((0 : Nat) + i.toNat * (1 : Nat) < bs.length) then (bif inR IntKind.i64 (i + (1 : Int)) then some (.normal, slots 95 [(1, (.ptr 0 0)), (3, (.sl false 5 1 0 zs.length)), (4, (.sl false 5 2 0 bs.length)), (5, (.val (.int .i64 a))), (6, (.val (.int .i64 (q_1.tmod (10 : Int))))), (7, (.val (.int .i64 (i + (1 : Int)))))], [(.row (.cells [(.val (.bool b)), (.val (.string s))]) 23 .live), (.row (.ints .u8 zs) 5 .live), (.row (.ints .u8 (bs.set ((0 : Nat) + i.toNat * (1 : Nat)) (IntKind.u8.wrap (q_1.tdiv (10 : Int))))) 5 .live)]) else none) else none) else none) else none) else none) else none) else none) else none) else some ((.exit 2), slots 95 [(1, (.ptr 0 0)), (3, (.sl false 5 1 0 zs.length)), (4, (.sl false 5 2 0 bs.length)), (5, (.val (.int .i64 a))), (6, (.val (.int .i64 r))), (7, (.val (.int .i64 i)))], [(.row (.cells [(.val (.bool b)), (.val (.string s))]) 23 .live), (.row (.ints .u8 zs) 5 .live), (.row (.ints .u8 bs) 5 .live)]))) := by kernel_rfl
theorem step_dvB {zs : List Int} {bs : List Int} {a : Int} {r : Int} {i : Int} {b : Bool} {s : ByteArray} {e : Ex} {T : List AV} {H : Hp} (h : roundA Try.prog EL0 10 [1, 3, 4, 5, 6, 7] (lb 10 p_dvB) (false :: p_dvB) (sh_dvB zs bs a r i b s) (hp_dvB zs bs a r i b s) = some (e, T, H)) : V.Ends Try.prog false 0 0 (lb 10 p_dvB) (sh_dvB zs bs a r i b s) (hp_dvB zs bs a r i b s) e T H :=
  round_ends (meets_none _) loops_none mixed code_dvB h
def pre_dvB (zs : List Int) (bs : List Int) (a r i : Int) (b : Bool) (s : ByteArray) : Prop := okb bs ∧ r = 0 ∧ i = a ∧ ∃ m : Nat, a = m ∧ m ≤ bs.length ∧ (∀ j, j < m → bs.getD j 0 = 0) ∧ bs.length ≤ 1000000000000
def post_dvB (zs : List Int) (bs : List Int) (a r i : Int) (b : Bool) (s : ByteArray) (ρ : Int × Int × List Int) : Prop := okb ρ.2.2 ∧ ρ.2.2.length = bs.length ∧ vI ρ.2.2 = vI bs / 10 ∧ ρ.1 = ((vI bs % 10 : Nat) : Int) ∧ ∀ m : Nat, a = m → ∀ j, j < m → ρ.2.2.getD j 0 = 0
theorem dvB_go (zs : List Int) (os : List Int) (a : Int) (b : Bool) (s : ByteArray) (hos : okb os) (hl : os.length ≤ 1000000000000) (d : Nat) : ∀ (ps : List Int) (r : Nat), ps.length + d = os.length → okb ps → r < 10 → vI (os.take ps.length) = 10 * vI ps + r →
    ∃ (qs : List Int) (ρ : Int × Int × List Int), LoopTo Try.prog (lb 10 p_dvB) (sh_dvB zs (ps ++ os.drop ps.length) a r ps.length b s) (hp_dvB zs (ps ++ os.drop ps.length) a r ps.length b s) (.exit 2) (sh_dvB zs ρ.2.2 a ρ.1 ρ.2.1 b s) (hp_dvB zs ρ.2.2 a ρ.1 ρ.2.1 b s) ∧ ρ.2.2 = ps ++ qs ∧ okb ρ.2.2 ∧ ρ.2.2.length = os.length ∧ ∃ r' : Nat, r' < 10 ∧ ρ.1 = r' ∧ vI os = 10 * vI ρ.2.2 + r' := by
  induction d with
  | zero =>
    intro ps r hd hp hr hv
    have e : ps.length = os.length := by omega
    rw [e, List.take_length] at hv
    refine ⟨[], ((r : Int), ((ps.length : Nat) : Int), ps), .last (step_dvB ?_) (by intro h; cases h), (List.append_nil ps).symm, hp, e, r, hr, rfl, hv⟩
    rw [e, List.drop_length, List.append_nil, round_dvB, dF (show ¬ ((os.length : Nat) : Int) < (ps.length : Int) by omega)]
    rfl
  | succ d ih =>
    intro ps r hd hp hr hv
    have hil : ps.length < os.length := by omega
    obtain ⟨c, hc, he, _⟩ := okb_get hos hil
    have hdrop : os.drop ps.length = (c : Int) :: os.drop (ps.length + 1) := by rw [List.drop_eq_getElem_cons hil, he]
    have hlen : (ps ++ (c : Int) :: os.drop (ps.length + 1)).length = os.length := by rw [List.length_append, List.length_cons, List.length_drop]; omega
    have hr0 := round_dvB zs (ps ++ (c : Int) :: os.drop (ps.length + 1)) a r ps.length b s
    have hq : ((r * 256 + c : Nat) : Int).tdiv 10 = (((r * 256 + c) / 10 : Nat) : Int) := rfl
    have hm : ((r * 256 + c : Nat) : Int).tmod 10 = (((r * 256 + c) % 10 : Nat) : Int) := rfl
    have hu : IntKind.u8.wrap ((((r * 256 + c) / 10 : Nat) : Int)) = (((r * 256 + c) / 10 : Nat) : Int) := by rw [IntKind.wrap_u8]; omega
    rw [hlen, Int.toNat_natCast, Nat.mul_one, Nat.zero_add, get_mid, or_i64 r c (by omega) hc, hq, hm, hu, set_mid, dT (show ((ps.length : Nat) : Int) < (os.length : Int) by omega), i64T (z := (r : Int) * 256) (by omega), dT (show (0 : Int) ≤ ((ps.length : Nat) : Int) by omega), dT hil, i64T (z := (c : Int)) (by omega), i64T (z := (((r * 256 + c) / 10 : Nat) : Int)) (by omega), i64T (z := ((ps.length : Nat) : Int) + 1) (by omega)] at hr0
    have h1 : vI (os.take (ps ++ [(((r * 256 + c) / 10 : Nat) : Int)]).length) = 10 * vI (ps ++ [(((r * 256 + c) / 10 : Nat) : Int)]) + (r * 256 + c) % 10 := by
      rw [List.length_append, show [(((r * 256 + c) / 10 : Nat) : Int)].length = 1 from rfl, List.take_succ_eq_append_getElem hil, he, vI_snoc, vI_snoc, hv]
      omega
    obtain ⟨qs, ρ, g1, g2, g3⟩ := ih (ps ++ [(((r * 256 + c) / 10 : Nat) : Int)]) ((r * 256 + c) % 10) (by rw [List.length_append]; show ps.length + 1 + d = _; omega) (okb_snoc hp (by omega)) (by omega) h1
    refine ⟨(((r * 256 + c) / 10 : Nat) : Int) :: qs, ρ, ?_, by rw [g2, List.append_assoc]; rfl, g3⟩
    rw [hdrop]
    refine .more (step_dvB (hr0.trans ?_)) g1
    unfold sh_dvB hp_dvB
    rw [show (ps ++ [(((r * 256 + c) / 10 : Nat) : Int)]).length = ps.length + 1 by rw [List.length_append]; rfl, List.append_assoc, show [(((r * 256 + c) / 10 : Nat) : Int)] ++ os.drop (ps.length + 1) = (((r * 256 + c) / 10 : Nat) : Int) :: os.drop (ps.length + 1) from rfl, show (ps ++ (((r * 256 + c) / 10 : Nat) : Int) :: os.drop (ps.length + 1)).length = os.length by rw [List.length_append, List.length_cons, List.length_drop]; omega]
    rfl
theorem loop_dvB (zs : List Int) (bs : List Int) (a r i : Int) (b : Bool) (s : ByteArray) (h : pre_dvB zs bs a r i b s) : ∃ ρ : Int × Int × List Int, LoopTo Try.prog (lb 10 p_dvB) (sh_dvB zs bs a r i b s) (hp_dvB zs bs a r i b s) (.exit 2) (sh_dvB zs ρ.2.2 a ρ.1 ρ.2.1 b s) (hp_dvB zs ρ.2.2 a ρ.1 ρ.2.1 b s) ∧ post_dvB zs bs a r i b s ρ := by
  obtain ⟨h1, rfl, rfl, m, rfl, hm, h0, hl⟩ := h
  have hz : vI (bs.take m) = 0 ∧ okb (bs.take m) := by
    refine ⟨?_, fun z hz => h1 z (List.mem_of_mem_take hz)⟩
    clear h1 hl
    induction m with
    | zero => rfl
    | succ m ih =>
      have := h0 m (by omega)
      rw [List.getD_eq_getElem?_getD, List.getElem?_eq_getElem (show m < bs.length by omega), Option.getD_some] at this
      rw [List.take_succ_eq_append_getElem (by omega), this, show (0 : Int) = ((0 : Nat) : Int) from rfl, vI_snoc, ih (by omega) (fun j hj => h0 j (by omega))]
  have hlen : (bs.take m).length = m := by rw [List.length_take]; omega
  obtain ⟨qs, ρ, g1, g2, g3, g4, r', g5, g6, g7⟩ := dvB_go zs bs (m : Int) b s h1 hl (bs.length - m) (bs.take m) 0 (by rw [hlen]; omega) hz.2 (by decide) (by rw [hlen, hz.1])
  rw [hlen, List.take_append_drop] at g1
  refine ⟨ρ, g1, g3, g4, by omega, by rw [g6]; omega, fun m' e j hj => ?_⟩
  have e : m' = m := by omega
  subst e
  rw [g2, List.getD_eq_getElem?_getD, List.getElem?_append_left (by rw [hlen]; exact hj), List.getElem?_take, if_pos hj, ← List.getD_eq_getElem?_getD]
  exact h0 j hj
def told_dvB (κ : List Int → List Int → Int → Int → Int → Bool → ByteArray → Bool) (φ : List Int → List Int → Int → Int → Int → Bool → ByteArray → Int × Int × List Int) (T : List AV) (H : Hp) : Option (Bool × Ex × List AV × Hp) :=
  match lget T 1, lget T 3, lget T 4, lget T 5, lget T 6, lget T 7, H with
  | .ptr 0 0, .sl false 5 1 0 m_zs, .sl false 5 2 0 m_bs, .val (.int .i64 a), .val (.int .i64 r), .val (.int .i64 i), [.row (.cells [.val (.bool b), .val (.string s)]) 23 .live, .row (.ints .u8 zs) 5 .live, .row (.ints .u8 bs) 5 .live] => bif T.length == 95 then some (decide (m_zs = zs.length) && decide (m_bs = bs.length) && κ zs bs a r i b s, .exit 2, sh_dvB zs ((φ zs bs a r i b s).2.2) a ((φ zs bs a r i b s).1) ((φ zs bs a r i b s).2.1) b s, hp_dvB zs ((φ zs bs a r i b s).2.2) a ((φ zs bs a r i b s).1) ((φ zs bs a r i b s).2.1) b s) else none
  | _, _, _, _, _, _, _ => none
abbrev KT_dvB : Type := List Int → List Int → Int → Int → Int → Bool → ByteArray → Bool
abbrev FT_dvB : Type := List Int → List Int → Int → Int → Int → Bool → ByteArray → Int × Int × List Int
def LL_dvB (κ : KT_dvB) (φ : FT_dvB) (L : LTab) : LTab := addLn 0 10 p_dvB [1, 3, 4, 5, 6, 7] (told_dvB κ φ) L
def phi_dvB (zs : List Int) (bs : List Int) (a : Int) (r : Int) (i : Int) (b : Bool) (s : ByteArray) : Int × Int × List Int := Classical.epsilon fun ρ => LoopTo Try.prog (lb 10 p_dvB) (sh_dvB zs bs a r i b s) (hp_dvB zs bs a r i b s) (.exit 2) (sh_dvB zs (ρ.2.2) a (ρ.1) (ρ.2.1) b s) (hp_dvB zs (ρ.2.2) a (ρ.1) (ρ.2.1) b s) ∧ post_dvB zs bs a r i b s ρ
theorem phi_dvB_spec (zs : List Int) (bs : List Int) (a : Int) (r : Int) (i : Int) (b : Bool) (s : ByteArray) (h : pre_dvB zs bs a r i b s) : LoopTo Try.prog (lb 10 p_dvB) (sh_dvB zs bs a r i b s) (hp_dvB zs bs a r i b s) (.exit 2) (sh_dvB zs ((phi_dvB zs bs a r i b s).2.2) a ((phi_dvB zs bs a r i b s).1) ((phi_dvB zs bs a r i b s).2.1) b s) (hp_dvB zs ((phi_dvB zs bs a r i b s).2.2) a ((phi_dvB zs bs a r i b s).1) ((phi_dvB zs bs a r i b s).2.1) b s) ∧ post_dvB zs bs a r i b s (phi_dvB zs bs a r i b s) := Classical.epsilon_spec (loop_dvB zs bs a r i b s h)
def cond_dvB (zs : List Int) (bs : List Int) (a : Int) (r : Int) (i : Int) (b : Bool) (s : ByteArray) : Bool := @decide (pre_dvB zs bs a r i b s) (Classical.propDecidable _)
theorem cond_dvB_eq (zs : List Int) (bs : List Int) (a : Int) (r : Int) (i : Int) (b : Bool) (s : ByteArray) (h : pre_dvB zs bs a r i b s) : cond_dvB zs bs a r i b s = true := @decide_eq_true _ (Classical.propDecidable _) h
theorem told_dvB_ok (T : List AV) (H : Hp) (e : Ex) (T1 : List AV) (H1 : Hp) (h : told_dvB cond_dvB phi_dvB T H = some (true, e, T1, H1)) : V.Ends Try.prog false 0 0 (.loop (lb 10 p_dvB)) T H e T1 H1 := by
  unfold told_dvB at h
  split at h
  · rename_i m_zs m_bs a r i b s zs bs h1 h3 h4 h5 h6 h7
    rw [Bool.cond_eq_ite] at h
    split at h
    · rename_i hlen
      rw [beq_iff_eq] at hlen
      simp only [Option.some.injEq, Prod.mk.injEq, Bool.and_eq_true, decide_eq_true_eq] at h
      obtain ⟨⟨⟨k1, k2⟩, k3⟩, rfl, rfl, rfl⟩ := h
      have kc := @of_decide_eq_true _ (Classical.propDecidable _) k3
      refine Ends.pre (phi_dvB_spec zs bs a r i b s kc).1.ends (fun α B w D ys hr => slots_rel hlen (fun p hp y hy => ?_) hr)
      simp only [List.mem_cons, List.not_mem_nil, or_false] at hp
      rcases hp with rfl | rfl | rfl | rfl | rfl | rfl
      · rw [h1] at hy; exact hy
      · rw [h3] at hy; rw [← k1]; exact hy
      · rw [h4] at hy; rw [← k2]; exact hy
      · rw [h5] at hy; exact hy
      · rw [h6] at hy; exact hy
      · rw [h7] at hy; exact hy
    · cases h
  · cases h
theorem LL_dvB_ok {L : LTab} (h : LOk Try.prog L) : LOk Try.prog (LL_dvB cond_dvB phi_dvB L) := h.add2n body_dvB told_dvB_ok
end
end Go.Proofs.Ytndpfegbbpoopaa.L
namespace Go.Proofs.Ytndpfegbbpoopaa.L
open Go Go.V Go.RowKit Go.Proofs.Ytndpfegbbpoopaa.Sp
open Go.Proofs (Try.prog)
noncomputable section
abbrev p_sk : List Bool := [false, true, true, true, false, true, false, false, true, false, true, true, true, true, true]
def sh_sk (zs : List Int) (bs : List Int) (a : Int) (b : Bool) (s : ByteArray) : List AV := slots 95 [(1, .ptr 0 0), (3, .sl false 5 1 0 zs.length), (4, .sl false 5 2 0 bs.length), (5, .val (.int .i64 a))]
def hp_sk (zs : List Int) (bs : List Int) (a : Int) (b : Bool) (s : ByteArray) : Hp := [.row (.cells [.val (.bool b), .val (.string s)]) 23 .live, .row (.ints .u8 zs) 5 .live, .row (.ints .u8 bs) 5 .live]
theorem body_sk : subC Try.prog 10 p_sk = some (.loop (lb 10 p_sk)) := by kernel_rfl
theorem code_sk : subC Try.prog 10 (false :: p_sk) = some (lb 10 p_sk) := by kernel_rfl
theorem round_sk  (zs : List Int) (bs : List Int) (a : Int) (b : Bool) (s : ByteArray) : roundA Try.prog EL0 10 [1, 3, 4, 5] (lb 10 p_sk) (false :: p_sk) (sh_sk zs bs a b s) (hp_sk zs bs a b s) =
    (bif decide (a < (↑bs.length : Int)) then (bif decide ((0 : Int) ≤ a) && decide (a < (↑bs.length : Int)) then (bif decide ((0 : Nat) + a.toNat * (1 : Nat) < bs.length) then (bif decide (bs.getD ((0 : Nat) + a.toNat * (1 : Nat)) (0 : Int) = (0 : Int)) then (bif inR IntKind.i64 (a + (1 : Int)) then some (.normal, slots 95 [(1, (.ptr 0 0)), (3, (.sl false 5 1 0 zs.length)), (4, (.sl false 5 2 0 bs.length)), (5, (.val (.int .i64 (a + (1 : Int)))))], [(.row (.cells [(.val (.bool b)), (.val (.string s))]) 23 .live), (.row (.ints .u8 zs) 5 .live), (.row (.ints .u8 bs) 5 .live)]) else none) else some ((.exit 4), slots 95 [(1, (.ptr 0 0)), (3, (.sl false 5 1 0 zs.length)), (4, (.sl false 5 2 0 bs.length)), (5, (.val (.int .i64 a)))], [(.row (.cells [(.val (.bool b)), (.val (.string s))]) 23 .live), (.row (.ints .u8 zs) 5 .live), (.row (.ints .u8 bs) 5 .live)])) else none) else none) else some ((.exit 4), slots 95 [(1, (.ptr 0 0)), (3, (.sl false 5 1 0 zs.length)), (4, (.sl false 5 2 0 bs.length)), (5, (.val (.int .i64 a)))], [(.row (.cells [(.val (.bool b)), (.val (.string s))]) 23 .live), (.row (.ints .u8 zs) 5 .live), (.row (.ints .u8 bs) 5 .live)])) := by kernel_rfl
theorem step_sk {zs : List Int} {bs : List Int} {a : Int} {b : Bool} {s : ByteArray} {e : Ex} {T : List AV} {H : Hp} (h : roundA Try.prog EL0 10 [1, 3, 4, 5] (lb 10 p_sk) (false :: p_sk) (sh_sk zs bs a b s) (hp_sk zs bs a b s) = some (e, T, H)) : V.Ends Try.prog false 0 0 (lb 10 p_sk) (sh_sk zs bs a b s) (hp_sk zs bs a b s) e T H :=
  round_ends (meets_none _) loops_none mixed code_sk h
def pre_sk (zs bs : List Int) (a : Int) (b : Bool) (s : ByteArray) : Prop := ∃ m : Nat, a = m ∧ m ≤ bs.length ∧ (∀ j, j < m → bs.getD j 0 = 0) ∧ bs.length ≤ 1000000000000
def post_sk (zs bs : List Int) (a : Int) (b : Bool) (s : ByteArray) (ρ : Int) : Prop := ∃ m : Nat, ρ = m ∧ m ≤ bs.length ∧ (∀ j, j < m → bs.getD j 0 = 0) ∧ (m = bs.length ∨ bs.getD m 0 ≠ 0)
theorem sk_go (zs bs : List Int) (b : Bool) (s : ByteArray) (hl : bs.length ≤ 1000000000000) (d : Nat) : ∀ m : Nat, m + d = bs.length → (∀ j, j < m → bs.getD j 0 = 0) → ∃ ρ : Int, LoopTo Try.prog (lb 10 p_sk) (sh_sk zs bs m b s) (hp_sk zs bs m b s) (.exit 4) (sh_sk zs bs ρ b s) (hp_sk zs bs ρ b s) ∧ post_sk zs bs m b s ρ := by
  induction d with
  | zero =>
    intro m hm h0
    refine ⟨(m : Int), .last (step_sk ?_) (by intro h; cases h), m, rfl, by omega, h0, .inl (by omega)⟩
    rw [round_sk, dF (show ¬ (m : Int) < (bs.length : Int) by omega)]
    rfl
  | succ d ih =>
    intro m hm h0
    have hr := round_sk zs bs (m : Int) b s
    rw [dT (show (m : Int) < (bs.length : Int) by omega), dT (show (0 : Int) ≤ (m : Int) by omega), Int.toNat_natCast, Nat.mul_one, Nat.zero_add, dT (show m < bs.length by omega), i64T (z := (m : Int) + 1) (by omega)] at hr
    by_cases hz : bs.getD m 0 = 0
    · rw [dT hz] at hr
      obtain ⟨ρ, k1, k2⟩ := ih (m + 1) (by omega) (fun j hj => by
        by_cases h : j = m
        · rw [h]; exact hz
        · exact h0 j (by omega))
      exact ⟨ρ, .more (step_sk hr) k1, k2⟩
    · rw [dF hz] at hr
      exact ⟨(m : Int), .last (step_sk hr) (by intro h; cases h), m, rfl, by omega, h0, .inr hz⟩
theorem loop_sk (zs bs : List Int) (a : Int) (b : Bool) (s : ByteArray) (h : pre_sk zs bs a b s) : ∃ ρ : Int, LoopTo Try.prog (lb 10 p_sk) (sh_sk zs bs a b s) (hp_sk zs bs a b s) (.exit 4) (sh_sk zs bs ρ b s) (hp_sk zs bs ρ b s) ∧ post_sk zs bs a b s ρ := by
  obtain ⟨m, rfl, h1, h2, h3⟩ := h
  exact sk_go zs bs b s h3 (bs.length - m) m (by omega) h2
def told_sk (κ : List Int → List Int → Int → Bool → ByteArray → Bool) (φ : List Int → List Int → Int → Bool → ByteArray → Int) (T : List AV) (H : Hp) : Option (Bool × Ex × List AV × Hp) :=
  match lget T 1, lget T 3, lget T 4, lget T 5, H with
  | .ptr 0 0, .sl false 5 1 0 m_zs, .sl false 5 2 0 m_bs, .val (.int .i64 a), [.row (.cells [.val (.bool b), .val (.string s)]) 23 .live, .row (.ints .u8 zs) 5 .live, .row (.ints .u8 bs) 5 .live] => bif T.length == 95 then some (decide (m_zs = zs.length) && decide (m_bs = bs.length) && κ zs bs a b s, .exit 4, sh_sk zs bs ((φ zs bs a b s)) b s, hp_sk zs bs ((φ zs bs a b s)) b s) else none
  | _, _, _, _, _ => none
abbrev KT_sk : Type := List Int → List Int → Int → Bool → ByteArray → Bool
abbrev FT_sk : Type := List Int → List Int → Int → Bool → ByteArray → Int
def LL_sk (κ : KT_sk) (φ : FT_sk) (L : LTab) : LTab := addLn 0 10 p_sk [1, 3, 4, 5] (told_sk κ φ) L
def phi_sk (zs : List Int) (bs : List Int) (a : Int) (b : Bool) (s : ByteArray) : Int := Classical.epsilon fun ρ => LoopTo Try.prog (lb 10 p_sk) (sh_sk zs bs a b s) (hp_sk zs bs a b s) (.exit 4) (sh_sk zs bs (ρ) b s) (hp_sk zs bs (ρ) b s) ∧ post_sk zs bs a b s ρ
theorem phi_sk_spec (zs : List Int) (bs : List Int) (a : Int) (b : Bool) (s : ByteArray) (h : pre_sk zs bs a b s) : LoopTo Try.prog (lb 10 p_sk) (sh_sk zs bs a b s) (hp_sk zs bs a b s) (.exit 4) (sh_sk zs bs ((phi_sk zs bs a b s)) b s) (hp_sk zs bs ((phi_sk zs bs a b s)) b s) ∧ post_sk zs bs a b s (phi_sk zs bs a b s) := Classical.epsilon_spec (loop_sk zs bs a b s h)
def cond_sk (zs : List Int) (bs : List Int) (a : Int) (b : Bool) (s : ByteArray) : Bool := @decide (pre_sk zs bs a b s) (Classical.propDecidable _)
theorem cond_sk_eq (zs : List Int) (bs : List Int) (a : Int) (b : Bool) (s : ByteArray) (h : pre_sk zs bs a b s) : cond_sk zs bs a b s = true := @decide_eq_true _ (Classical.propDecidable _) h
theorem told_sk_ok (T : List AV) (H : Hp) (e : Ex) (T1 : List AV) (H1 : Hp) (h : told_sk cond_sk phi_sk T H = some (true, e, T1, H1)) : V.Ends Try.prog false 0 0 (.loop (lb 10 p_sk)) T H e T1 H1 := by
  unfold told_sk at h
  split at h
  · rename_i m_zs m_bs a b s zs bs h1 h3 h4 h5
    rw [Bool.cond_eq_ite] at h
    split at h
    · rename_i hlen
      rw [beq_iff_eq] at hlen
      simp only [Option.some.injEq, Prod.mk.injEq, Bool.and_eq_true, decide_eq_true_eq] at h
      obtain ⟨⟨⟨k1, k2⟩, k3⟩, rfl, rfl, rfl⟩ := h
      have kc := @of_decide_eq_true _ (Classical.propDecidable _) k3
      refine Ends.pre (phi_sk_spec zs bs a b s kc).1.ends (fun α B w D ys hr => slots_rel hlen (fun p hp y hy => ?_) hr)
      simp only [List.mem_cons, List.not_mem_nil, or_false] at hp
      rcases hp with rfl | rfl | rfl | rfl
      · rw [h1] at hy; exact hy
      · rw [h3] at hy; rw [← k1]; exact hy
      · rw [h4] at hy; rw [← k2]; exact hy
      · rw [h5] at hy; exact hy
    · cases h
  · cases h
theorem LL_sk_ok {L : LTab} (h : LOk Try.prog L) : LOk Try.prog (LL_sk cond_sk phi_sk L) := h.add2n body_sk told_sk_ok
abbrev p_rv : List Bool := [false, true, false, true, true, true, true, true, true, true]
def sh_rv (zs : List Int) (i : Int) (k : Int) : List AV := slots 95 [(3, .sl false 5 0 0 zs.length), (8, .val (.int .i64 i)), (9, .val (.int .i64 k))]
def hp_rv (zs : List Int) (i : Int) (k : Int) : Hp := [.row (.ints .u8 zs) 5 .live]
theorem body_rv : subC Try.prog 10 p_rv = some (.loop (lb 10 p_rv)) := by kernel_rfl
theorem code_rv : subC Try.prog 10 (false :: p_rv) = some (lb 10 p_rv) := by kernel_rfl
theorem round_rv  (zs : List Int) (i : Int) (k : Int) : letI q_1 := (zs.set ((0 : Nat) + i.toNat * (1 : Nat)) (zs.getD ((0 : Nat) + k.toNat * (1 : Nat)) (0 : Int)));
    (roundA Try.prog EL0 10 [3, 8, 9] (lb 10 p_rv) (false :: p_rv) (sh_rv zs i k) (hp_rv zs i k) = (bif decide (i < k) then (bif decide ((0 : Int) ≤ k) && decide (k < (↑zs.length : Int)) then (bif decide ((0 : Nat) + k.toNat * (1 : Nat) < zs.length) then (bif decide ((0 : Int) ≤ i) && decide (i < (↑zs.length : Int)) then (bif decide ((0 : Nat) + i.toNat * (1 : Nat) < zs.length) then (bif decide ((0 : Int) ≤ i) && decide (i < (↑zs.length : Int)) then (bif decide ((0 : Nat) + i.toNat * (1 : Nat) < zs.length) then (bif decide ((0 : Int) ≤ k) && decide (k < (↑zs.length : Int)) then (bif decide ((0 : Nat) + k.toNat * (1 : Nat) < q_1.length) then (bif inR IntKind.i64 (i + (1 : Int)) then (bif inR IntKind.i64 (k - (1 : Int)) then some (.normal, slots 95 [(3, (.sl false 5 0 0 zs.length)), (8, (.val (.int .i64 (i + (1 : Int))))), (9, (.val (.int .i64 (k - (1 : Int)))))], [(.row (.ints .u8 (q_1.set ((0 : Nat) + k.toNat * (1 : Nat)) (zs.getD ((0 : Nat) + i.toNat * (1 : Nat)) (0 : Int)))) 5 .live)]) else none) else none) else none) else none) else none) else none) else none) else none) else none) else none) else some ((.exit 6), slots 95 [(3, (.sl false 5 0 0 zs.length)), (8, (.val (.int .i64 i))), (9, (.val (.int .i64 k)))], [(.row (.ints .u8 zs) 5 .live)]))) := by kernel_rfl
theorem step_rv {zs : List Int} {i : Int} {k : Int} {e : Ex} {T : List AV} {H : Hp} (h : roundA Try.prog EL0 10 [3, 8, 9] (lb 10 p_rv) (false :: p_rv) (sh_rv zs i k) (hp_rv zs i k) = some (e, T, H)) : V.Ends Try.prog false 0 0 (lb 10 p_rv) (sh_rv zs i k) (hp_rv zs i k) e T H :=
  round_ends (meets_none _) loops_none mixed code_rv h
def pre_rv (zs : List Int) (i k : Int) : Prop := i = 0 ∧ k = (zs.length : Int) - 1 ∧ zs.length ≤ 1000000000000
def post_rv (zs : List Int) (i k : Int) (ρ : Int × Int × List Int) : Prop := ρ.2.2 = zs.reverse
theorem two_ends (l : List Int) : l = [] ∨ (∃ x, l = [x]) ∨ ∃ x m y, l = x :: (m ++ [y]) := by
  cases l with
  | nil => exact .inl rfl
  | cons x l =>
    rcases List.eq_nil_or_concat l with rfl | ⟨m, y, rfl⟩
    · exact .inr (.inl ⟨x, rfl⟩)
    · exact .inr (.inr ⟨x, m, y, by rw [List.concat_eq_append]⟩)
theorem rv_go (d : Nat) : ∀ (M P Q : List Int), M.length ≤ d → P.length = Q.length → (P ++ M ++ Q).length ≤ 1000000000000 → ∃ ρ : Int × Int × List Int, LoopTo Try.prog (lb 10 p_rv) (sh_rv (P ++ M ++ Q) P.length ((P.length : Int) + M.length - 1)) (hp_rv (P ++ M ++ Q) P.length ((P.length : Int) + M.length - 1)) (.exit 6) (sh_rv ρ.2.2 ρ.1 ρ.2.1) (hp_rv ρ.2.2 ρ.1 ρ.2.1) ∧ ρ.2.2 = P ++ M.reverse ++ Q := by
  induction d using Nat.strongRecOn with
  | _ d ih =>
    intro M P Q hd hpq hl
    rcases two_ends M with rfl | ⟨x, rfl⟩ | ⟨x, m, y, rfl⟩
    · refine ⟨((P.length : Int), (P.length : Int) + (0 : Nat) - 1, P ++ [] ++ Q), .last (step_rv ?_) (by intro h; cases h), rfl⟩
      rw [round_rv, dF (show ¬ (P.length : Int) < (P.length : Int) + (([] : List Int).length : Int) - 1 by show ¬ (P.length : Int) < (P.length : Int) + 0 - 1; omega)]
      rfl
    · refine ⟨((P.length : Int), (P.length : Int) + (1 : Nat) - 1, P ++ [x] ++ Q), .last (step_rv ?_) (by intro h; cases h), rfl⟩
      rw [round_rv, dF (show ¬ (P.length : Int) < (P.length : Int) + (([x] : List Int).length : Int) - 1 by show ¬ (P.length : Int) < (P.length : Int) + 1 - 1; omega)]
      rfl
    · have hml : (x :: (m ++ [y])).length = m.length + 2 := by rw [List.length_cons, List.length_append]; rfl
      have hlen : (P ++ x :: (m ++ [y]) ++ Q).length = P.length + m.length + 2 + Q.length := by rw [List.length_append, List.length_append, hml]; omega
      have hr := round_rv (P ++ x :: (m ++ [y]) ++ Q) P.length ((P.length : Int) + (x :: (m ++ [y])).length - 1)
      have ek : (P.length : Int) + ((x :: (m ++ [y])).length : Int) - 1 = ((P.length + m.length + 1 : Nat) : Int) := by rw [hml]; omega
      rw [ek] at hr ⊢
      have s1 : P ++ x :: (m ++ [y]) ++ Q = P ++ x :: (m ++ y :: Q) := by simp
      have s2 : P ++ x :: (m ++ y :: Q) = (P ++ x :: m) ++ y :: Q := by simp
      have s3 : P ++ y :: (m ++ y :: Q) = (P ++ y :: m) ++ y :: Q := by simp
      have l2 : (P ++ x :: m).length = P.length + m.length + 1 := by rw [List.length_append, List.length_cons]; omega
      have l3 : (P ++ y :: m).length = P.length + m.length + 1 := by rw [List.length_append, List.length_cons]; omega
      have g1 : (P ++ x :: (m ++ y :: Q)).getD (P.length + m.length + 1) 0 = y := by rw [s2, ← l2]; exact get_mid _ _ _
      have g2 : (P ++ y :: (m ++ y :: Q)).set (P.length + m.length + 1) x = (P ++ y :: m) ++ x :: Q := by rw [s3, ← l3]; exact set_mid _ _ _ _
      rw [s1] at hr hlen hl ⊢
      have hq : (P ++ y :: (m ++ y :: Q)).length = P.length + m.length + 2 + Q.length := by rw [List.length_append, List.length_cons, List.length_append, List.length_cons]; omega
      rw [hlen, Int.toNat_natCast, Int.toNat_natCast, Nat.mul_one, Nat.mul_one, Nat.zero_add, Nat.zero_add, g1, get_mid, set_mid, g2, dT (show (P.length : Int) < ((P.length + m.length + 1 : Nat) : Int) by omega), dT (show (0 : Int) ≤ ((P.length + m.length + 1 : Nat) : Int) by omega), dT (show ((P.length + m.length + 1 : Nat) : Int) < ((P.length + m.length + 2 + Q.length : Nat) : Int) by omega), dT (show P.length + m.length + 1 < P.length + m.length + 2 + Q.length by omega), dT (show (0 : Int) ≤ (P.length : Int) by omega), dT (show (P.length : Int) < ((P.length + m.length + 2 + Q.length : Nat) : Int) by omega), dT (show P.length < P.length + m.length + 2 + Q.length by omega), i64T (z := (P.length : Int) + 1) (by omega), i64T (z := ((P.length + m.length + 1 : Nat) : Int) - 1) (by omega), hq, dT (show P.length + m.length + 1 < P.length + m.length + 2 + Q.length by omega)] at hr
      obtain ⟨ρ, k1, k2⟩ := ih m.length (by rw [hml] at hd; omega) m (P ++ [y]) (x :: Q) (Nat.le_refl _) (by simp only [List.length_append, List.length_cons, List.length_nil]; omega) (by
        clear hr; simp only [List.length_append, List.length_cons, List.length_nil] at hlen hl ⊢; omega)
      have s4 : P ++ [y] ++ m ++ x :: Q = P ++ y :: m ++ x :: Q := by simp
      have l4 : ((P ++ [y]).length : Int) = (P.length : Int) + 1 := by rw [List.length_append]; show ((P.length + 1 : Nat) : Int) = _; omega
      rw [s4, l4] at k1
      refine ⟨ρ, .more (step_rv (hr.trans ?_)) k1, by rw [k2]; simp⟩
      unfold sh_rv hp_rv
      have l5 : (P ++ y :: m ++ x :: Q).length = P.length + m.length + 2 + Q.length := by simp only [List.length_append, List.length_cons]; omega
      rw [l5, show ((P.length + m.length + 1 : Nat) : Int) - 1 = (P.length : Int) + 1 + (m.length : Int) - 1 by omega]
      rfl
theorem loop_rv (zs : List Int) (i k : Int) (h : pre_rv zs i k) : ∃ ρ : Int × Int × List Int, LoopTo Try.prog (lb 10 p_rv) (sh_rv zs i k) (hp_rv zs i k) (.exit 6) (sh_rv ρ.2.2 ρ.1 ρ.2.1) (hp_rv ρ.2.2 ρ.1 ρ.2.1) ∧ post_rv zs i k ρ := by
  obtain ⟨rfl, rfl, h1⟩ := h
  obtain ⟨ρ, k1, k2⟩ := rv_go zs.length zs [] [] (Nat.le_refl _) rfl (by simpa using h1)
  simp only [List.nil_append, List.append_nil, List.length_nil] at k1 k2
  rw [show ((0 : Nat) : Int) + (zs.length : Int) - 1 = (zs.length : Int) - 1 by omega] at k1
  exact ⟨ρ, k1, k2⟩
def told_rv (κ : List Int → Int → Int → Bool) (φ : List Int → Int → Int → Int × Int × List Int) (T : List AV) (H : Hp) : Option (Bool × Ex × List AV × Hp) :=
  match lget T 3, lget T 8, lget T 9, H with
  | .sl false 5 0 0 m_zs, .val (.int .i64 i), .val (.int .i64 k), [.row (.ints .u8 zs) 5 .live] => bif T.length == 95 then some (decide (m_zs = zs.length) && κ zs i k, .exit 6, sh_rv ((φ zs i k).2.2) ((φ zs i k).1) ((φ zs i k).2.1), hp_rv ((φ zs i k).2.2) ((φ zs i k).1) ((φ zs i k).2.1)) else none
  | _, _, _, _ => none
abbrev KT_rv : Type := List Int → Int → Int → Bool
abbrev FT_rv : Type := List Int → Int → Int → Int × Int × List Int
def LL_rv (κ : KT_rv) (φ : FT_rv) (L : LTab) : LTab := addLn 0 10 p_rv [3, 8, 9] (told_rv κ φ) L
def phi_rv (zs : List Int) (i : Int) (k : Int) : Int × Int × List Int := Classical.epsilon fun ρ => LoopTo Try.prog (lb 10 p_rv) (sh_rv zs i k) (hp_rv zs i k) (.exit 6) (sh_rv (ρ.2.2) (ρ.1) (ρ.2.1)) (hp_rv (ρ.2.2) (ρ.1) (ρ.2.1)) ∧ post_rv zs i k ρ
theorem phi_rv_spec (zs : List Int) (i : Int) (k : Int) (h : pre_rv zs i k) : LoopTo Try.prog (lb 10 p_rv) (sh_rv zs i k) (hp_rv zs i k) (.exit 6) (sh_rv ((phi_rv zs i k).2.2) ((phi_rv zs i k).1) ((phi_rv zs i k).2.1)) (hp_rv ((phi_rv zs i k).2.2) ((phi_rv zs i k).1) ((phi_rv zs i k).2.1)) ∧ post_rv zs i k (phi_rv zs i k) := Classical.epsilon_spec (loop_rv zs i k h)
def cond_rv (zs : List Int) (i : Int) (k : Int) : Bool := @decide (pre_rv zs i k) (Classical.propDecidable _)
theorem cond_rv_eq (zs : List Int) (i : Int) (k : Int) (h : pre_rv zs i k) : cond_rv zs i k = true := @decide_eq_true _ (Classical.propDecidable _) h
theorem told_rv_ok (T : List AV) (H : Hp) (e : Ex) (T1 : List AV) (H1 : Hp) (h : told_rv cond_rv phi_rv T H = some (true, e, T1, H1)) : V.Ends Try.prog false 0 0 (.loop (lb 10 p_rv)) T H e T1 H1 := by
  unfold told_rv at h
  split at h
  · rename_i m_zs i k zs h3 h8 h9
    rw [Bool.cond_eq_ite] at h
    split at h
    · rename_i hlen
      rw [beq_iff_eq] at hlen
      simp only [Option.some.injEq, Prod.mk.injEq, Bool.and_eq_true, decide_eq_true_eq] at h
      obtain ⟨⟨k1, k2⟩, rfl, rfl, rfl⟩ := h
      have kc := @of_decide_eq_true _ (Classical.propDecidable _) k2
      refine Ends.pre (phi_rv_spec zs i k kc).1.ends (fun α B w D ys hr => slots_rel hlen (fun p hp y hy => ?_) hr)
      simp only [List.mem_cons, List.not_mem_nil, or_false] at hp
      rcases hp with rfl | rfl | rfl
      · rw [h3] at hy; rw [← k1]; exact hy
      · rw [h8] at hy; exact hy
      · rw [h9] at hy; exact hy
    · cases h
  · cases h
theorem LL_rv_ok {L : LTab} (h : LOk Try.prog L) : LOk Try.prog (LL_rv cond_rv phi_rv L) := h.add2n body_rv told_rv_ok
end
end Go.Proofs.Ytndpfegbbpoopaa.L
namespace Go.Proofs.Ytndpfegbbpoopaa.L
open Go Go.V Go.RowKit Go.Proofs.Ytndpfegbbpoopaa.Sp
open Go.Proofs (Try.prog)
noncomputable section
def EoA (κ1 : KT_dvA) (φ1 : FT_dvA) (κ2 : KT_sk) (φ2 : FT_sk) : Env := ⟨noC, fun _ => false, LL_dvA κ1 φ1 (LL_sk κ2 φ2 noL)⟩
def EoB (κ1 : KT_dvB) (φ1 : FT_dvB) (κ2 : KT_sk) (φ2 : FT_sk) : Env := ⟨noC, fun _ => false, LL_dvB κ1 φ1 (LL_sk κ2 φ2 noL)⟩
abbrev p_oA : List Bool := [false, true, false, true, true, true, true, true]
def sh_oA (bs : List Int) (a : Int) (b : Bool) (s : ByteArray) : List AV := slots 95 [(1, .ptr 0 0), (3, .val (.slice none 0 0)), (4, .sl false 5 1 0 bs.length), (5, .val (.int .i64 a))]
def hp_oA (bs : List Int) (a : Int) (b : Bool) (s : ByteArray) : Hp := [.row (.cells [.val (.bool b), .val (.string s)]) 23 .live, .row (.ints .u8 bs) 5 .live]
theorem body_oA : subC Try.prog 10 p_oA = some (.loop (lb 10 p_oA)) := by kernel_rfl
theorem code_oA : subC Try.prog 10 (false :: p_oA) = some (lb 10 p_oA) := by kernel_rfl
theorem round_oA (κ1 : KT_dvA) (φ1 : FT_dvA) (κ2 : KT_sk) (φ2 : FT_sk) (bs : List Int) (a : Int) (b : Bool) (s : ByteArray) : roundA Try.prog (EoA κ1 φ1 κ2 φ2) 10 [1, 3, 4, 5] (lb 10 p_oA) (false :: p_oA) (sh_oA bs a b s) (hp_oA bs a b s) =
    (bif decide (a < (↑bs.length : Int)) then (bif decide (bs.length = bs.length) && κ1 bs a (0 : Int) a b s then (bif inR IntKind.i64 ((48 : Int) + (φ1 bs a (0 : Int) a b s).fst) then (bif decide ((φ1 bs a (0 : Int) a b s).snd.snd.length = (φ1 bs a (0 : Int) a b s).snd.snd.length) && κ2 [IntKind.u8.wrap ((48 : Int) + (φ1 bs a (0 : Int) a b s).fst)] (φ1 bs a (0 : Int) a b s).snd.snd a b s then some (.normal, slots 95 [(1, (.ptr 0 0)), (3, (.sl false 5 1 0 1)), (4, (.sl false 5 2 0 ((φ1 bs a (0 : Int) a b s).snd.snd.length))), (5, (.val (.int .i64 (φ2 [IntKind.u8.wrap ((48 : Int) + (φ1 bs a (0 : Int) a b s).fst)] (φ1 bs a (0 : Int) a b s).snd.snd a b s))))], [(.row (.cells [(.val (.bool b)), (.val (.string s))]) 23 .live), (.row (.ints .u8 ([IntKind.u8.wrap ((48 : Int) + (φ1 bs a (0 : Int) a b s).fst)])) 5 .live), (.row (.ints .u8 ((φ1 bs a (0 : Int) a b s).snd.snd)) 5 .live)]) else none) else none) else none) else some ((.exit 0), slots 95 [(1, (.ptr 0 0)), (3, (.val (.slice .none 0 0))), (4, (.sl false 5 1 0 bs.length)), (5, (.val (.int .i64 a)))], [(.row (.cells [(.val (.bool b)), (.val (.string s))]) 23 .live), (.row (.ints .u8 bs) 5 .live)])) := by kernel_rfl
theorem step_oA {bs : List Int} {a : Int} {b : Bool} {s : ByteArray} {e : Ex} {T : List AV} {H : Hp} (h : roundA Try.prog (EoA cond_dvA phi_dvA cond_sk phi_sk) 10 [1, 3, 4, 5] (lb 10 p_oA) (false :: p_oA) (sh_oA bs a b s) (hp_oA bs a b s) = some (e, T, H)) : V.Ends Try.prog false 0 0 (lb 10 p_oA) (sh_oA bs a b s) (hp_oA bs a b s) e T H :=
  round_ends (meets_none _) (LL_dvA_ok (LL_sk_ok LOk.none)).ok mixed code_oA h
abbrev p_oB : List Bool := [false, true, false, true, true, true, true, true]
def sh_oB (zs : List Int) (bs : List Int) (a : Int) (b : Bool) (s : ByteArray) : List AV := slots 95 [(1, .ptr 0 0), (3, .sl false 5 1 0 zs.length), (4, .sl false 5 2 0 bs.length), (5, .val (.int .i64 a))]
def hp_oB (zs : List Int) (bs : List Int) (a : Int) (b : Bool) (s : ByteArray) : Hp := [.row (.cells [.val (.bool b), .val (.string s)]) 23 .live, .row (.ints .u8 zs) 5 .live, .row (.ints .u8 bs) 5 .live]
theorem code_oB : subC Try.prog 10 (false :: p_oB) = some (lb 10 p_oB) := by kernel_rfl
theorem round_oB (κ1 : KT_dvB) (φ1 : FT_dvB) (κ2 : KT_sk) (φ2 : FT_sk) (zs : List Int) (bs : List Int) (a : Int) (b : Bool) (s : ByteArray) : letI q_2 := (φ1 zs bs a (0 : Int) a b s); letI q_1 := (List.take (zs.length * (1 : Nat)) zs ++ [IntKind.u8.wrap ((48 : Int) + q_2.fst)]);
    (roundA Try.prog (EoB κ1 φ1 κ2 φ2) 10 [1, 3, 4, 5] (lb 10 p_oB) (false :: p_oB) (sh_oB zs bs a b s) (hp_oB zs bs a b s) = (bif decide (a < (↑bs.length : Int)) then (bif decide (zs.length = zs.length) && decide (bs.length = bs.length) && κ1 zs bs a (0 : Int) a b s then (bif inR IntKind.i64 ((48 : Int) + q_2.fst) then (bif decide (zs.length * (1 : Nat) ≤ zs.length) && roomA Try.prog (zs.length + (1 : Nat)) (5 : Nat) && true then (bif decide (zs.length + (1 : Nat) = q_1.length) && decide (q_2.snd.snd.length = q_2.snd.snd.length) && κ2 q_1 q_2.snd.snd a b s then some (.normal, slots 95 [(1, (.ptr 0 0)), (3, (.sl false 5 1 0 (q_1.length))), (4, (.sl false 5 2 0 (q_2.snd.snd.length))), (5, (.val (.int .i64 (φ2 q_1 q_2.snd.snd a b s))))], [(.row (.cells [(.val (.bool b)), (.val (.string s))]) 23 .live), (.row (.ints .u8 q_1) 5 .live), (.row (.ints .u8 (q_2.snd.snd)) 5 .live)]) else none) else none) else none) else none) else some ((.exit 0), slots 95 [(1, (.ptr 0 0)), (3, (.sl false 5 1 0 zs.length)), (4, (.sl false 5 2 0 bs.length)), (5, (.val (.int .i64 a)))], [(.row (.cells [(.val (.bool b)), (.val (.string s))]) 23 .live), (.row (.ints .u8 zs) 5 .live), (.row (.ints .u8 bs) 5 .live)]))) := by kernel_rfl
theorem step_oB {zs : List Int} {bs : List Int} {a : Int} {b : Bool} {s : ByteArray} {e : Ex} {T : List AV} {H : Hp} (h : roundA Try.prog (EoB cond_dvB phi_dvB cond_sk phi_sk) 10 [1, 3, 4, 5] (lb 10 p_oB) (false :: p_oB) (sh_oB zs bs a b s) (hp_oB zs bs a b s) = some (e, T, H)) : V.Ends Try.prog false 0 0 (lb 10 p_oB) (sh_oB zs bs a b s) (hp_oB zs bs a b s) e T H :=
  round_ends (meets_none _) (LL_dvB_ok (LL_sk_ok LOk.none)).ok mixed code_oB h
theorem vI_zero0 : ∀ (l : List Int) (n : Nat), l.foldl (fun n z => n * 256 + z.toNat) n = 0 → n = 0 ∧ ∀ z ∈ l, z.toNat = 0
  | [], n, h => ⟨h, fun z h => by cases h⟩
  | x :: l, n, h => by
    obtain ⟨h1, h2⟩ := vI_zero0 l (n * 256 + x.toNat) h
    refine ⟨by omega, fun z hz => ?_⟩
    rcases List.mem_cons.1 hz with rfl | hz
    · omega
    · exact h2 z hz
theorem vI_pos {l : List Int} (h : okb l) {m : Nat} (hm : m < l.length) (h0 : l.getD m 0 ≠ 0) : vI l ≠ 0 := by
  intro hz
  obtain ⟨c, _, he, hd⟩ := okb_get h hm
  have := (vI_zero0 l 0 hz).2 l[m] (List.getElem_mem hm)
  rw [he] at this
  rw [hd] at h0
  apply h0
  omega
theorem vI_all0 : ∀ (l : List Int), (∀ j, j < l.length → l.getD j 0 = 0) → vI l = 0 := by
  have key : ∀ (l : List Int), (∀ j, j < l.length → l.getD j 0 = 0) → l.foldl (fun n z => n * 256 + z.toNat) 0 = 0 := by
    intro l
    induction l with
    | nil => intro _; rfl
    | cons x l ih =>
      intro h
      have h1 : x = 0 := h 0 (by show 0 < l.length + 1; omega)
      subst h1
      exact ih fun j hj => h (j + 1) (by show j + 1 < l.length + 1; omega)
  exact key
theorem dp_snoc (j n : Nat) : dp j n ++ [((n / 10 ^ j % 10 + 48 : Nat) : Int)] = dp (j + 1) n := by rw [dp_add]; rfl
theorem oB_go (n : Nat) (b : Bool) (s : ByteArray) : ∀ (k j m : Nat) (bs : List Int), vI bs < 10 ^ k → vI bs = n / 10 ^ j → okb bs → m ≤ bs.length → (∀ i, i < m → bs.getD i 0 = 0) → (m = bs.length ∨ bs.getD m 0 ≠ 0) → bs.length ≤ 1000000 → j + k ≤ 1000000000 → (j = 0 ∨ 10 ^ (j - 1) ≤ n) →
    ∃ (bs' : List Int) (a' : Int), LoopTo Try.prog (lb 10 p_oB) (sh_oB (dp j n) bs m b s) (hp_oB (dp j n) bs m b s) (.exit 0) (sh_oB (dp (dl n) n) bs' a' b s) (hp_oB (dp (dl n) n) bs' a' b s) := by
  intro k
  induction k with
  | zero =>
    intro j m bs hk hv hb hm h0 h1 hl hjk hj
    have hz : vI bs = 0 := by rw [Nat.pow_zero] at hk; omega
    have hml : m = bs.length := h1.resolve_right fun h => by
      rcases Nat.lt_or_ge m bs.length with h2 | h2
      · exact vI_pos hb h2 h hz
      · exact h (by rw [List.getD_eq_getElem?_getD, List.getElem?_eq_none h2]; rfl)
    have hn : n < 10 ^ j := by
      have : n / 10 ^ j = 0 := by omega
      rcases Nat.div_eq_zero_iff.1 this with h | h
      · have := Nat.pow_pos (n := j) (show 0 < 10 by decide); omega
      · exact h
    rw [dl_uniq hn hj]
    refine ⟨bs, (m : Int), .last (step_oB ?_) (by intro h; cases h)⟩
    rw [← dl_uniq hn hj, round_oB, dF (show ¬ (m : Int) < (bs.length : Int) by omega)]
    rfl
  | succ k ih =>
    intro j m bs hk hv hb hm h0 h1 hl hjk hj
    by_cases hml : m = bs.length
    · have hz : vI bs = 0 := vI_all0 bs (fun i hi => h0 i (by omega))
      have hn : n < 10 ^ j := by
        have : n / 10 ^ j = 0 := by omega
        rcases Nat.div_eq_zero_iff.1 this with h | h
        · have := Nat.pow_pos (n := j) (show 0 < 10 by decide); omega
        · exact h
      rw [dl_uniq hn hj]
      refine ⟨bs, (m : Int), .last (step_oB ?_) (by intro h; cases h)⟩
      rw [← dl_uniq hn hj, round_oB, dF (show ¬ (m : Int) < (bs.length : Int) by omega)]
      rfl
    · have hnz := vI_pos hb (show m < bs.length by omega) (h1.resolve_left hml)
      have hn : 10 ^ j ≤ n := by
        rcases Nat.lt_or_ge n (10 ^ j) with h | h
        · exact absurd (hv.trans (Nat.div_eq_of_lt h)) hnz
        · exact h
      have hq : pre_dvB (dp j n) bs m 0 m b s := ⟨hb, rfl, rfl, m, rfl, hm, h0, by omega⟩
      have hs := (phi_dvB_spec _ _ _ _ _ _ _ hq).2
      have hr := round_oB cond_dvB phi_dvB cond_sk phi_sk (dp j n) bs m b s
      generalize phi_dvB (dp j n) bs m 0 m b s = ρ at hs hr
      obtain ⟨g1, g2, g3, g4, g5⟩ := hs
      have g5 := g5 m rfl
      have hd : IntKind.u8.wrap (48 + ρ.1) = ((n / 10 ^ j % 10 + 48 : Nat) : Int) := by rw [g4, hv, IntKind.wrap_u8]; omega
      have hlj : (dp j n).length = j := dp_len _ _
      have hlj1 : (dp (j + 1) n).length = j + 1 := dp_len _ _
      rw [hlj, Nat.mul_one, show (dp j n).take j = dp j n from List.take_of_length_le (by rw [hlj]; exact Nat.le_refl _), hd, dp_snoc, hlj1] at hr
      have hp2 : pre_sk (dp (j + 1) n) ρ.2.2 m b s := ⟨m, rfl, by omega, g5, by omega⟩
      have hs2 := (phi_sk_spec _ _ _ _ _ hp2).2
      rw [cond_dvB_eq _ _ _ _ _ _ _ hq, cond_sk_eq _ _ _ _ _ hp2, dT (show (m : Int) < (bs.length : Int) by omega), g4, i64T (z := 48 + ((vI bs % 10 : Nat) : Int)) (by omega), room5 (j + 1) (by omega), dT (rfl : j = j), dT (rfl : bs.length = bs.length), dT (rfl : j + 1 = j + 1), dT (rfl : ρ.2.2.length = ρ.2.2.length), dT (Nat.le_refl j)] at hr
      generalize phi_sk (dp (j + 1) n) ρ.2.2 m b s = σ at hs2 hr
      obtain ⟨m', rfl, q1, q2, q3⟩ := hs2
      obtain ⟨bs', a', k1⟩ := ih (j + 1) m' ρ.2.2 (by rw [g3, Nat.div_lt_iff_lt_mul (by decide), ← Nat.pow_succ]; exact hk) (by rw [g3, hv, Nat.div_div_eq_div_mul, Nat.pow_succ]) g1 q1 q2 q3 (by omega) (by omega) (.inr (by rw [Nat.add_sub_cancel]; exact hn))
      refine ⟨bs', a', .more (step_oB (hr.trans ?_)) k1⟩
      unfold sh_oB hp_oB
      rw [hlj1]
      rfl
def pre_oA (bs : List Int) (a : Int) (b : Bool) (s : ByteArray) : Prop := okb bs ∧ a = 0 ∧ 0 < bs.length ∧ bs.getD 0 0 ≠ 0 ∧ bs.length ≤ 1000000
def post_oA (bs : List Int) (a : Int) (b : Bool) (s : ByteArray) (ρ : List Int × List Int × Int) : Prop := ρ.1 = dp (dl (vI bs)) (vI bs)
theorem vI_lt (l : List Int) (h : okb l) : vI l < 256 ^ l.length := by
  have key : ∀ (l : List Int) (n : Nat), okb l → l.foldl (fun n z => n * 256 + z.toNat) n < (n + 1) * 256 ^ l.length := by
    intro l
    induction l with
    | nil => intro n _; show n < (n + 1) * 1; omega
    | cons x l ih =>
      intro n h
      obtain ⟨c, hc, rfl⟩ := h x List.mem_cons_self
      have := ih (n * 256 + c) (fun z hz => h z (List.mem_cons_of_mem _ hz))
      refine Nat.lt_of_lt_of_le this ?_
      rw [List.length_cons, Nat.pow_succ, Nat.mul_comm (256 ^ l.length) 256, ← Nat.mul_assoc]
      exact Nat.mul_le_mul_right _ (by omega)
  have := key l 0 h
  rwa [Nat.zero_add, Nat.one_mul] at this
theorem loop_oA (bs : List Int) (a : Int) (b : Bool) (s : ByteArray) (h : pre_oA bs a b s) : ∃ ρ : List Int × List Int × Int, LoopTo Try.prog (lb 10 p_oA) (sh_oA bs a b s) (hp_oA bs a b s) (.exit 0) (sh_oB ρ.1 ρ.2.1 ρ.2.2 b s) (hp_oB ρ.1 ρ.2.1 ρ.2.2 b s) ∧ post_oA bs a b s ρ := by
  obtain ⟨hb, rfl, h1, h2, hl⟩ := h
  have hnz := vI_pos hb h1 h2
  have hq : pre_dvA bs ((0 : Nat) : Int) 0 ((0 : Nat) : Int) b s := ⟨hb, rfl, rfl, 0, rfl, Nat.zero_le _, fun j hj => by omega, by omega⟩
  have hs := (phi_dvA_spec _ _ _ _ _ _ hq).2
  have hr := round_oA cond_dvA phi_dvA cond_sk phi_sk bs ((0 : Nat) : Int) b s
  generalize phi_dvA bs ((0 : Nat) : Int) 0 ((0 : Nat) : Int) b s = ρ at hs hr
  obtain ⟨g1, g2, g3, g4, g5⟩ := hs
  have hd : [IntKind.u8.wrap (48 + ρ.1)] = dp 1 (vI bs) := by
    show _ = [((vI bs % 10 + 48 : Nat) : Int)]
    rw [g4, IntKind.wrap_u8]
    refine congrArg (fun x => [x]) ?_
    omega
  have hp2 : pre_sk (dp 1 (vI bs)) ρ.2.2 ((0 : Nat) : Int) b s := ⟨0, rfl, by omega, fun j hj => by omega, by omega⟩
  have hs2 := (phi_sk_spec _ _ _ _ _ hp2).2
  rw [hd, cond_dvA_eq _ _ _ _ _ _ hq, cond_sk_eq _ _ _ _ _ hp2, dT (show ((0 : Nat) : Int) < (bs.length : Int) by omega), g4, i64T (z := 48 + ((vI bs % 10 : Nat) : Int)) (by omega), dT (rfl : bs.length = bs.length), dT (rfl : ρ.2.2.length = ρ.2.2.length)] at hr
  generalize phi_sk (dp 1 (vI bs)) ρ.2.2 ((0 : Nat) : Int) b s = σ at hs2 hr
  obtain ⟨m', rfl, q1, q2, q3⟩ := hs2
  have hlt := vI_lt bs hb
  have hk : vI ρ.2.2 < 10 ^ (9 * bs.length) := by
    rw [g3]
    refine Nat.lt_of_le_of_lt (Nat.div_le_self _ _) (Nat.lt_of_lt_of_le hlt ?_)
    rw [Nat.pow_mul]
    exact Nat.pow_le_pow_left (by decide) _
  obtain ⟨bs', a', k1⟩ := oB_go (vI bs) b s (9 * bs.length) 1 m' ρ.2.2 hk (by rw [g3]) g1 q1 q2 q3 (by omega) (by omega) (.inr (by show 10 ^ 0 ≤ _; rw [Nat.pow_zero]; omega))
  exact ⟨(dp (dl (vI bs)) (vI bs), bs', a'), .more (step_oA hr) k1, rfl⟩
def told_oA (κ : List Int → Int → Bool → ByteArray → Bool) (φ : List Int → Int → Bool → ByteArray → List Int × List Int × Int) (T : List AV) (H : Hp) : Option (Bool × Ex × List AV × Hp) :=
  match lget T 1, lget T 3, lget T 4, lget T 5, H with
  | .ptr 0 0, .val (.slice none 0 0), .sl false 5 1 0 m_bs, .val (.int .i64 a), [.row (.cells [.val (.bool b), .val (.string s)]) 23 .live, .row (.ints .u8 bs) 5 .live] => bif T.length == 95 then some (decide (m_bs = bs.length) && κ bs a b s, .exit 0, sh_oB ((φ bs a b s).1) ((φ bs a b s).2.1) ((φ bs a b s).2.2) b s, hp_oB ((φ bs a b s).1) ((φ bs a b s).2.1) ((φ bs a b s).2.2) b s) else none
  | _, _, _, _, _ => none
abbrev KT_oA : Type := List Int → Int → Bool → ByteArray → Bool
abbrev FT_oA : Type := List Int → Int → Bool → ByteArray → List Int × List Int × Int
def LL_oA (κ : KT_oA) (φ : FT_oA) (L : LTab) : LTab := addLn 0 10 p_oA [1, 3, 4, 5] (told_oA κ φ) L
def phi_oA (bs : List Int) (a : Int) (b : Bool) (s : ByteArray) : List Int × List Int × Int := Classical.epsilon fun ρ => LoopTo Try.prog (lb 10 p_oA) (sh_oA bs a b s) (hp_oA bs a b s) (.exit 0) (sh_oB (ρ.1) (ρ.2.1) (ρ.2.2) b s) (hp_oB (ρ.1) (ρ.2.1) (ρ.2.2) b s) ∧ post_oA bs a b s ρ
theorem phi_oA_spec (bs : List Int) (a : Int) (b : Bool) (s : ByteArray) (h : pre_oA bs a b s) : LoopTo Try.prog (lb 10 p_oA) (sh_oA bs a b s) (hp_oA bs a b s) (.exit 0) (sh_oB ((phi_oA bs a b s).1) ((phi_oA bs a b s).2.1) ((phi_oA bs a b s).2.2) b s) (hp_oB ((phi_oA bs a b s).1) ((phi_oA bs a b s).2.1) ((phi_oA bs a b s).2.2) b s) ∧ post_oA bs a b s (phi_oA bs a b s) := Classical.epsilon_spec (loop_oA bs a b s h)
def cond_oA (bs : List Int) (a : Int) (b : Bool) (s : ByteArray) : Bool := @decide (pre_oA bs a b s) (Classical.propDecidable _)
theorem cond_oA_eq (bs : List Int) (a : Int) (b : Bool) (s : ByteArray) (h : pre_oA bs a b s) : cond_oA bs a b s = true := @decide_eq_true _ (Classical.propDecidable _) h
theorem told_oA_ok (T : List AV) (H : Hp) (e : Ex) (T1 : List AV) (H1 : Hp) (h : told_oA cond_oA phi_oA T H = some (true, e, T1, H1)) : V.Ends Try.prog false 0 0 (.loop (lb 10 p_oA)) T H e T1 H1 := by
  unfold told_oA at h
  split at h
  · rename_i m_bs a b s bs h1 h3 h4 h5
    rw [Bool.cond_eq_ite] at h
    split at h
    · rename_i hlen
      rw [beq_iff_eq] at hlen
      simp only [Option.some.injEq, Prod.mk.injEq, Bool.and_eq_true, decide_eq_true_eq] at h
      obtain ⟨⟨k1, k2⟩, rfl, rfl, rfl⟩ := h
      have kc := @of_decide_eq_true _ (Classical.propDecidable _) k2
      refine Ends.pre (phi_oA_spec bs a b s kc).1.ends (fun α B w D ys hr => slots_rel hlen (fun p hp y hy => ?_) hr)
      simp only [List.mem_cons, List.not_mem_nil, or_false] at hp
      rcases hp with rfl | rfl | rfl | rfl
      · rw [h1] at hy; exact hy
      · rw [h3] at hy; exact hy
      · rw [h4] at hy; rw [← k1]; exact hy
      · rw [h5] at hy; exact hy
    · cases h
  · cases h
theorem LL_oA_ok {L : LTab} (h : LOk Try.prog L) : LOk Try.prog (LL_oA cond_oA phi_oA L) := h.add2n body_oA told_oA_ok
def CRPr (S : Sg) : FuncId → List AV → Option (Bool × AV) := addC 23 (tCanon S) noC
theorem rprint_tree (S : Sg) (κ1 : KT_oA) (φ1 : FT_oA) (κ2 : KT_rv) (φ2 : FT_rv) (b : Bool) (s : ByteArray) : letI q_1 := (φ1 (bytesI (S.ms (S.val b s))) (0 : Int) (S.ng (S.val b s)) (S.ms (S.val b s))); letI q_4 := (List.take (q_1.fst.length * (1 : Nat)) q_1.fst ++ [(45 : Int)]); letI q_5 := ((↑(q_1.fst.length + (1 : Nat)) : Int) - (1 : Int)); letI q_2 := (φ2 q_4 (0 : Int) q_5); letI q_3 := (φ2 q_1.fst (0 : Int) ((↑q_1.fst.length : Int) - (1 : Int)));
    (callA Try.prog ⟨CRPr S, fun _ => false, LL_oA κ1 φ1 (LL_rv κ2 φ2 noL)⟩ 10 10 10 [.agg [.val (.bool b), .val (.string s)]] = (bif strEq (S.ms (S.val b s)) (ByteArray.mk #[]) then some (.val (.string (ByteArray.mk #[(48 : UInt8)]))) else (bif decide ((S.ms (S.val b s)).size = (bytesI (S.ms (S.val b s))).length) && κ1 (bytesI (S.ms (S.val b s))) (0 : Int) (S.ng (S.val b s)) (S.ms (S.val b s)) then (bif S.ng (S.val b s) then (bif decide (q_1.fst.length * (1 : Nat) ≤ q_1.fst.length) && roomA Try.prog (q_1.fst.length + (1 : Nat)) (5 : Nat) && true then (bif inR IntKind.i64 q_5 then (bif decide (q_1.fst.length + (1 : Nat) = q_4.length) && κ2 q_4 (0 : Int) q_5 then (bif decide ((0 : Nat) + q_2.snd.snd.length * (1 : Nat) ≤ q_2.snd.snd.length) then some (.val (.string (ofBytes (List.take (q_2.snd.snd.length * (1 : Nat)) (List.drop (0 : Nat) q_2.snd.snd))))) else none) else none) else none) else none) else (bif inR IntKind.i64 ((↑q_1.fst.length : Int) - (1 : Int)) then (bif decide (q_1.fst.length = q_1.fst.length) && κ2 q_1.fst (0 : Int) ((↑q_1.fst.length : Int) - (1 : Int)) then (bif decide ((0 : Nat) + q_3.snd.snd.length * (1 : Nat) ≤ q_3.snd.snd.length) then some (.val (.string (ofBytes (List.take (q_3.snd.snd.length * (1 : Nat)) (List.drop (0 : Nat) q_3.snd.snd))))) else none) else none) else none)) else none))) := by kernel_rfl
theorem CRPr_ok : Meets Try.prog (CRPr sg0) := (meets_none _).add eCanon
theorem vI_bytes (s : ByteArray) : vI (bytesI s) = vS s := by
  unfold vI bytesI vS vB
  rw [List.foldl_map]
  rfl
theorem okb_bytes (s : ByteArray) : okb (bytesI s) := by
  intro z hz
  obtain ⟨c, _, rfl⟩ := List.mem_map.1 hz
  exact ⟨c.toNat, c.toNat_lt, rfl⟩
theorem bytes_mag (n : Nat) : bytesI (magOf n) = (toB n).map fun c => (c.toNat : Int) := by unfold bytesI; rw [magOf_data]
theorem lead_mag {n : Nat} (h : n ≠ 0) : 0 < (bytesI (magOf n)).length ∧ (bytesI (magOf n)).getD 0 0 ≠ 0 := by
  rw [bytes_mag]
  have hl := lead_toB n
  have hv := vB_toB n
  cases ht : toB n with
  | nil => rw [ht] at hv; exact absurd hv.symm h
  | cons c l =>
    rw [ht] at hl
    refine ⟨by rw [List.map_cons, List.length_cons]; omega, ?_⟩
    show ((c.toNat : Nat) : Int) ≠ 0
    have hl : c ≠ 0 := hl
    intro h0
    apply hl
    apply UInt8.toNat_inj.1
    show c.toNat = 0
    omega
theorem eRPrint : Entry Try.prog 10 (tPrt sg0 txt) := by
  refine entry_of (E := ⟨CRPr sg0, fun _ => false, LL_oA cond_oA phi_oA (LL_rv cond_rv phi_rv noL)⟩) (u := 10) (d := 10) CRPr_ok (LL_oA_ok (LL_rv_ok LOk.none)).ok mixed (by kernel_rfl) (fun args r h => ?_)
  unfold tPrt at h
  split at h
  · rename_i b s
    simp only [Option.some.injEq, Prod.mk.injEq] at h
    obtain ⟨h1, rfl⟩ := h
    have h1 : s.size ≤ 1000000 := of_decide_eq_true h1
    have hbs := bs_val b s
    have hcall := rprint_tree sg0 cond_oA phi_oA cond_rv phi_rv b s
    generalize sg0.val b s = z at *
    have hm : sg0.ms z = magOf z.natAbs := rfl
    have hg : sg0.ng z = decide (z < 0) := ng_eq z
    have he : strEq (sg0.ms z) (ByteArray.mk #[]) = decide (z.natAbs = 0) := by rw [hm]; exact magOf_nil _
    rw [hcall, he]
    unfold txt
    by_cases h0 : z = 0
    · rw [dT (show z.natAbs = 0 by omega), if_pos h0]; rfl
    · rw [dF (show ¬ z.natAbs = 0 by omega), if_neg h0]
      have hn : z.natAbs ≠ 0 := by omega
      obtain ⟨l1, l2⟩ := lead_mag hn
      have hlen : (bytesI (magOf z.natAbs)).length ≤ 1000000 := by
        rw [bytesI_len]
        have := size_ms z
        rw [hm] at this
        omega
      have hq : pre_oA (bytesI (sg0.ms z)) 0 (sg0.ng z) (sg0.ms z) := ⟨okb_bytes _, rfl, l1, l2, hlen⟩
      have hs := (phi_oA_spec _ _ _ _ hq).2
      unfold post_oA at hs
      have hv : vI (bytesI (sg0.ms z)) = z.natAbs := by rw [vI_bytes]; exact vS_magOf _
      rw [hv] at hs
      have hdl : dl z.natAbs ≤ 9 * (magOf z.natAbs).size := by
        have := dl_le (vs_pow (magOf z.natAbs))
        rwa [vS_magOf] at this
      rw [bytesI_len] at hlen
      have hpos := dl_pos hn
      rw [cond_oA_eq _ _ _ _ hq, dT (show (sg0.ms z).size = (bytesI (sg0.ms z)).length from (bytesI_len _).symm)]
      generalize phi_oA (bytesI (sg0.ms z)) 0 (sg0.ng z) (sg0.ms z) = ρ at *
      rw [hs, dp_len, Nat.mul_one, show (dp (dl z.natAbs) z.natAbs).take (dl z.natAbs) = dp (dl z.natAbs) z.natAbs from List.take_of_length_le (by rw [dp_len]; exact Nat.le_refl _)]
      have l3 : (dp (dl z.natAbs) z.natAbs ++ [45]).length = dl z.natAbs + 1 := by rw [List.length_append, dp_len]; rfl
      have q1 : pre_rv (dp (dl z.natAbs) z.natAbs ++ [45]) 0 (((dl z.natAbs + 1 : Nat) : Int) - 1) := ⟨rfl, by rw [l3], by rw [l3]; omega⟩
      have q2 : pre_rv (dp (dl z.natAbs) z.natAbs) 0 (((dl z.natAbs : Nat) : Int) - 1) := ⟨rfl, by rw [dp_len], by rw [dp_len]; omega⟩
      have s1 := (phi_rv_spec _ _ _ q1).2
      have s2 := (phi_rv_spec _ _ _ q2).2
      unfold post_rv at s1 s2
      rw [cond_rv_eq _ _ _ q1, cond_rv_eq _ _ _ q2, s1, s2, hg, room5 (dl z.natAbs + 1) (by omega), i64T (z := ((dl z.natAbs + 1 : Nat) : Int) - 1) (by omega), i64T (z := ((dl z.natAbs : Nat) : Int) - 1) (by omega), List.length_reverse, List.length_reverse, l3, dp_len, dT (Nat.le_refl (dl z.natAbs)), dT (rfl : dl z.natAbs + 1 = dl z.natAbs + 1), dT (rfl : dl z.natAbs = dl z.natAbs), Nat.mul_one, Nat.mul_one, List.drop_zero, List.drop_zero, Nat.zero_add, Nat.zero_add, dT (Nat.le_refl (dl z.natAbs)), dT (Nat.le_refl (dl z.natAbs + 1))]
      have t1 : ((dp (dl z.natAbs) z.natAbs ++ [45]).reverse).take (dl z.natAbs + 1) = [45] ++ (dp (dl z.natAbs) z.natAbs).reverse := by
        rw [List.take_of_length_le (by rw [List.length_reverse, l3]; exact Nat.le_refl _), List.reverse_append]; rfl
      have t2 : ((dp (dl z.natAbs) z.natAbs).reverse).take (dl z.natAbs) = [] ++ (dp (dl z.natAbs) z.natAbs).reverse := by
        rw [List.take_of_length_le (by rw [List.length_reverse, dp_len]; exact Nat.le_refl _)]; rfl
      rw [t1, t2]
      by_cases hz : z < 0
      · rw [dT hz, if_pos hz]; rfl
      · rw [dF hz, if_neg hz]; rfl
  · cases h
end
end Go.Proofs.Ytndpfegbbpoopaa.L
namespace Go.Proofs.Ytndpfegbbpoopaa.L
open Go Go.V Go.RowKit Go.Proofs.Ytndpfegbbpoopaa.Sp Go.Proofs.Ytndpfegbbpoopaa.F
open Go.Proofs (Try.prog)
noncomputable section
abbrev p_ma : List Bool := [false, true, false, true, true, true]
def sh_ma (y : Int) (zs : List Int) (c : Int) (xs : List Int) (n : Int) (i : Int) : List AV := slots 44 [(1, .val (.int .u32 y)), (7, .sl false 47 0 0 zs.length), (8, .val (.int .u64 c)), (17, .lst false 47 xs.length (lim xs)), (18, .val (.int .i64 n)), (19, .val (.int .i64 i))]
def hp_ma (y : Int) (zs : List Int) (c : Int) (xs : List Int) (n : Int) (i : Int) : Hp := [.row (.ints .u32 zs) 47 .live]
theorem body_ma : subC Try.prog 21 p_ma = some (.loop (lb 21 p_ma)) := by kernel_rfl
theorem code_ma : subC Try.prog 21 (false :: p_ma) = some (lb 21 p_ma) := by kernel_rfl
theorem round_ma  (y : Int) (zs : List Int) (c : Int) (xs : List Int) (n : Int) (i : Int) : roundA Try.prog EL0 21 [1, 7, 8, 17, 18, 19] (lb 21 p_ma) (false :: p_ma) (sh_ma y zs c xs n i) (hp_ma y zs c xs n i) =
    (bif decide (i < n) then (bif decide ((0 : Int) ≤ i) && decide (i < (↑xs.length : Int)) then (bif inR IntKind.u64 (xs.getD i.toNat (0 : Int)) then (bif inR IntKind.u64 y then (bif decide (zs.length * (1 : Nat) ≤ zs.length) && roomA Try.prog (zs.length + (1 : Nat)) (47 : Nat) && true then (bif inR IntKind.i64 (i + (1 : Int)) then some (.normal, slots 44 [(1, (.val (.int .u32 y))), (7, (.sl false 47 0 0 (zs.length + (1 : Nat)))), (8, (.val (.int .u64 ((IntKind.u64.wrap (c + IntKind.u64.wrap (xs.getD i.toNat (0 : Int) * y))).fdiv (4294967296 : Int))))), (17, (.lst false 47 xs.length (lim xs))), (18, (.val (.int .i64 n))), (19, (.val (.int .i64 (i + (1 : Int)))))], [(.row (.ints .u32 (List.take (zs.length * (1 : Nat)) zs ++ [IntKind.u32.wrap (IntKind.u64.wrap (c + IntKind.u64.wrap (xs.getD i.toNat (0 : Int) * y)))])) 47 .live)]) else none) else none) else none) else none) else none) else some ((.exit 0), slots 44 [(1, (.val (.int .u32 y))), (7, (.sl false 47 0 0 zs.length)), (8, (.val (.int .u64 c))), (17, (.lst false 47 xs.length (lim xs))), (18, (.val (.int .i64 n))), (19, (.val (.int .i64 i)))], [(.row (.ints .u32 zs) 47 .live)])) := by kernel_rfl
theorem step_ma {y : Int} {zs : List Int} {c : Int} {xs : List Int} {n : Int} {i : Int} {e : Ex} {T : List AV} {H : Hp} (h : roundA Try.prog EL0 21 [1, 7, 8, 17, 18, 19] (lb 21 p_ma) (false :: p_ma) (sh_ma y zs c xs n i) (hp_ma y zs c xs n i) = some (e, T, H)) : V.Ends Try.prog false 0 0 (lb 21 p_ma) (sh_ma y zs c xs n i) (hp_ma y zs c xs n i) e T H :=
  round_ends (meets_none _) loops_none mixed code_ma h
def pre_ma (y : Int) (zs : List Int) (c : Int) (xs : List Int) (n i : Int) : Prop := okL xs ∧ xs.length ≤ 8796093022208 ∧ n = xs.length ∧ i = 0 ∧ zs = [] ∧ 0 ≤ y ∧ y < 4294967296 ∧ 0 ≤ c ∧ c < 4294967296
def post_ma (y : Int) (zs : List Int) (c : Int) (xs : List Int) (n i : Int) (r : List Int × Int × Int) : Prop := okL r.1 ∧ r.1.length = xs.length ∧ ∃ k : Nat, k < 4294967296 ∧ r.2.1 = k ∧ vL r.1 + 4294967296 ^ xs.length * k = vL xs * y.toNat + c.toNat
theorem ma_go (xs : List Int) (y a : Nat) (hl : okL xs) (hb : xs.length ≤ 8796093022208) (hy : y < 4294967296) (d : Nat) : ∀ (i c : Nat) (out : List Int), i + d = xs.length → okL out → out.length = i → c < 4294967296 →
    vL out + 4294967296 ^ i * c = vL (xs.take i) * y + a →
    ∃ r : List Int × Int × Int, LoopTo Try.prog (lb 21 p_ma) (sh_ma y out c xs xs.length i) (hp_ma y out c xs xs.length i) (.exit 0) (sh_ma y r.1 r.2.1 xs xs.length r.2.2) (hp_ma y r.1 r.2.1 xs xs.length r.2.2) ∧
      okL r.1 ∧ r.1.length = xs.length ∧ ∃ k : Nat, k < 4294967296 ∧ r.2.1 = k ∧ vL r.1 + 4294967296 ^ xs.length * k = vL xs * y + a := by
  induction d with
  | zero =>
    intro i c out hi hok hlen hc hv
    have hi' : i = xs.length := by omega
    subst hi'
    refine ⟨(out, (c : Int), (xs.length : Int)), .last (step_ma ?_) (by intro h; cases h), hok, hlen, c, hc, rfl, ?_⟩
    · rw [round_ma, dF (show ¬ ((xs.length : Int) < xs.length) by omega)]
      rfl
    · rw [hv, List.take_length]
  | succ d ih =>
    intro i c out hi hok hlen hc hv
    have hil : i < xs.length := by omega
    obtain ⟨x, hx, hex, hrx⟩ := getD_limb hl i hil
    have ht := vL_take_succ xs i hil
    rw [hex, Int.toNat_natCast] at ht
    have hxy : x * y ≤ 4294967295 * 4294967295 := Nat.mul_le_mul (by omega) (by omega)
    have hr := round_ma y out c xs xs.length i
    have e1 : (x : Int) * (y : Int) = ((x * y : Nat) : Int) := (Int.natCast_mul _ _).symm
    rw [Int.toNat_natCast, hrx, e1, u64w', Nat.mod_eq_of_lt (show x * y < 18446744073709551616 by omega), ← Int.natCast_add, u64w', Nat.mod_eq_of_lt (show c + x * y < 18446744073709551616 by omega), u32w, fdiv32, dT (show (i : Int) < xs.length by omega), dT (show (0 : Int) ≤ (i : Int) by omega), u64T (show 0 ≤ (x : Int) ∧ (x : Int) ≤ 18446744073709551615 by omega), u64T (show 0 ≤ (y : Int) ∧ (y : Int) ≤ 18446744073709551615 by omega), i64T (show -9223372036854775808 ≤ (i : Int) + 1 ∧ (i : Int) + 1 ≤ 9223372036854775807 by omega), Nat.mul_one, dT (Nat.le_refl out.length), room64 _ (show out.length + 1 ≤ 35184372088832 by omega), List.take_length] at hr
    have hs : vL (out ++ [(((c + x * y) % 4294967296 : Nat) : Int)]) + 4294967296 ^ (i + 1) * ((c + x * y) / 4294967296) = vL (xs.take (i + 1)) * y + a := by
      rw [vL_snoc, hlen, Int.toNat_natCast, Nat.pow_succ, ht]
      have h1 := carry_step (n := c + x * y) hv
      have h2 : (vL (xs.take i) + 4294967296 ^ i * x) * y = vL (xs.take i) * y + 4294967296 ^ i * (x * y) := by rw [Nat.add_mul, Nat.mul_assoc]
      rw [h2]
      rw [Nat.mul_add (4294967296 ^ i) c] at h1
      omega
    obtain ⟨r, h1, h2⟩ := ih (i + 1) ((c + x * y) / 4294967296) (out ++ [(((c + x * y) % 4294967296 : Nat) : Int)]) (by omega) (okL_append.2 ⟨hok, by rw [okL_cons]; exact ⟨limbN _, okL_nil⟩⟩) (by simp [hlen]) (by rw [Nat.div_lt_iff_lt_mul (by decide)]; omega) hs
    refine ⟨r, .more (step_ma (hr.trans ?_)) h1, h2⟩
    unfold sh_ma hp_ma
    rw [List.length_append]
    rfl
theorem loop_ma (y : Int) (zs : List Int) (c : Int) (xs : List Int) (n i : Int) (h : pre_ma y zs c xs n i) : ∃ r : List Int × Int × Int, LoopTo Try.prog (lb 21 p_ma) (sh_ma y zs c xs n i) (hp_ma y zs c xs n i) (.exit 0) (sh_ma y r.1 r.2.1 xs n r.2.2) (hp_ma y r.1 r.2.1 xs n r.2.2) ∧ post_ma y zs c xs n i r := by
  obtain ⟨h1, h2, rfl, rfl, rfl, h3, h4, h5, h6⟩ := h
  obtain ⟨y, rfl⟩ := Int.eq_ofNat_of_zero_le h3
  obtain ⟨c, rfl⟩ := Int.eq_ofNat_of_zero_le h5
  exact ma_go xs y c h1 h2 (by omega) xs.length 0 c [] (by omega) okL_nil rfl (by omega) (by simp [vL_nil])
def told_ma (κ : Int → List Int → Int → List Int → Int → Int → Bool) (φ : Int → List Int → Int → List Int → Int → Int → List Int × Int × Int) (T : List AV) (H : Hp) : Option (Bool × Ex × List AV × Hp) :=
  match lget T 1, lget T 7, lget T 8, lget T 17, lget T 18, lget T 19, H with
  | .val (.int .u32 y), .sl false 47 0 0 m_zs, .val (.int .u64 c), .lst false 47 m_xs f_xs, .val (.int .i64 n), .val (.int .i64 i), [.row (.ints .u32 zs) 47 .live] => bif T.length == 44 then some (okB m_xs f_xs && decide (m_zs = zs.length) && κ y zs c (rowOf m_xs f_xs) n i, .exit 0, sh_ma y ((φ y zs c (rowOf m_xs f_xs) n i).1) ((φ y zs c (rowOf m_xs f_xs) n i).2.1) (rowOf m_xs f_xs) n ((φ y zs c (rowOf m_xs f_xs) n i).2.2), hp_ma y ((φ y zs c (rowOf m_xs f_xs) n i).1) ((φ y zs c (rowOf m_xs f_xs) n i).2.1) (rowOf m_xs f_xs) n ((φ y zs c (rowOf m_xs f_xs) n i).2.2)) else none
  | _, _, _, _, _, _, _ => none
abbrev KT_ma : Type := Int → List Int → Int → List Int → Int → Int → Bool
abbrev FT_ma : Type := Int → List Int → Int → List Int → Int → Int → List Int × Int × Int
def LL_ma (κ : KT_ma) (φ : FT_ma) (L : LTab) : LTab := addLn 0 21 p_ma [1, 7, 8, 17, 18, 19] (told_ma κ φ) L
def phi_ma (y : Int) (zs : List Int) (c : Int) (xs : List Int) (n : Int) (i : Int) : List Int × Int × Int := Classical.epsilon fun ρ => LoopTo Try.prog (lb 21 p_ma) (sh_ma y zs c xs n i) (hp_ma y zs c xs n i) (.exit 0) (sh_ma y (ρ.1) (ρ.2.1) xs n (ρ.2.2)) (hp_ma y (ρ.1) (ρ.2.1) xs n (ρ.2.2)) ∧ post_ma y zs c xs n i ρ
theorem phi_ma_spec (y : Int) (zs : List Int) (c : Int) (xs : List Int) (n : Int) (i : Int) (h : pre_ma y zs c xs n i) : LoopTo Try.prog (lb 21 p_ma) (sh_ma y zs c xs n i) (hp_ma y zs c xs n i) (.exit 0) (sh_ma y ((phi_ma y zs c xs n i).1) ((phi_ma y zs c xs n i).2.1) xs n ((phi_ma y zs c xs n i).2.2)) (hp_ma y ((phi_ma y zs c xs n i).1) ((phi_ma y zs c xs n i).2.1) xs n ((phi_ma y zs c xs n i).2.2)) ∧ post_ma y zs c xs n i (phi_ma y zs c xs n i) := Classical.epsilon_spec (loop_ma y zs c xs n i h)
def cond_ma (y : Int) (zs : List Int) (c : Int) (xs : List Int) (n : Int) (i : Int) : Bool := @decide (pre_ma y zs c xs n i) (Classical.propDecidable _)
theorem cond_ma_eq (y : Int) (zs : List Int) (c : Int) (xs : List Int) (n : Int) (i : Int) (h : pre_ma y zs c xs n i) : cond_ma y zs c xs n i = true := @decide_eq_true _ (Classical.propDecidable _) h
theorem told_ma_ok (T : List AV) (H : Hp) (e : Ex) (T1 : List AV) (H1 : Hp) (h : told_ma cond_ma phi_ma T H = some (true, e, T1, H1)) : V.Ends Try.prog false 0 0 (.loop (lb 21 p_ma)) T H e T1 H1 := by
  unfold told_ma at h
  split at h
  · rename_i y m_zs c m_xs f_xs n i zs h1 h7 h8 h17 h18 h19
    rw [Bool.cond_eq_ite] at h
    split at h
    · rename_i hlen
      rw [beq_iff_eq] at hlen
      simp only [Option.some.injEq, Prod.mk.injEq, Bool.and_eq_true, decide_eq_true_eq] at h
      obtain ⟨⟨⟨k1, k2⟩, k3⟩, rfl, rfl, rfl⟩ := h
      have kc := @of_decide_eq_true _ (Classical.propDecidable _) k3
      refine Ends.pre (phi_ma_spec y zs c (rowOf m_xs f_xs) n i kc).1.ends (fun α B w D ys hr => slots_rel hlen (fun p hp y hy => ?_) hr)
      simp only [List.mem_cons, List.not_mem_nil, or_false] at hp
      rcases hp with rfl | rfl | rfl | rfl | rfl | rfl
      · rw [h1] at hy; exact hy
      · rw [h7] at hy; rw [← k2]; exact hy
      · rw [h8] at hy; exact hy
      · rw [h17] at hy; rw [rowOf_len]; exact row_norm cells47 k1 hy
      · rw [h18] at hy; exact hy
      · rw [h19] at hy; exact hy
    · cases h
  · cases h
theorem LL_ma_ok {L : LTab} (h : LOk Try.prog L) : LOk Try.prog (LL_ma cond_ma phi_ma L) := h.add2n body_ma told_ma_ok
theorem ma_call (S : Sg) (κ : KT_ma) (φ : FT_ma) (xs : List Int) (y a : Int) : letI q_1 := (φ y [] a (rowOf xs.length (lim xs)) (↑xs.length : Int) (0 : Int)); letI q_2 := (List.take (q_1.fst.length * (1 : Nat)) q_1.fst ++ [IntKind.u32.wrap q_1.snd.fst]); letI q_3 := (q_1.fst.length + (1 : Nat));
    (callA Try.prog ⟨addC 39 (tTrim S) noC, Kall, LL_ma κ φ noL⟩ 10 10 21 [.lst false 47 xs.length (lim xs), .val (.int .u32 y), .val (.int .u32 a)] = (bif inR IntKind.i64 ((↑xs.length : Int) + (1 : Int)) then (bif decide ((4 : Int) * ((↑xs.length : Int) + (1 : Int)) ≤ (281474976710656 : Int)) && decide ((↑xs.length : Int) + (1 : Int) ≤ (9223372036854775807 : Int)) then (bif inR IntKind.u64 a then (bif okB xs.length (lim xs) && true && κ y [] a (rowOf xs.length (lim xs)) (↑xs.length : Int) (0 : Int) then (bif decide (q_1.fst.length * (1 : Nat) ≤ q_1.fst.length) && roomA Try.prog q_3 (47 : Nat) && true then (bif decide ((0 : Nat) + q_3 * (1 : Nat) ≤ q_2.length) then (bif S.okr q_3 (lim q_2) then some (.lst false 47 (S.len (S.num q_3 (lim q_2))) (S.row (S.num q_3 (lim q_2)))) else none) else none) else none) else none) else none) else none) else none)) := by kernel_rfl
def tMuladd (S : Sg) : List AV → Option (Bool × AV) := fun args => match args with | [.lst _ 47 m f, .val (.int .u32 y), .val (.int .u32 a)] => some (S.oks m f && inU y && inU a, S.lmb (S.num m f * y.toNat + a.toNat)) | _ => none
theorem eMuladd : Entry Try.prog 21 (tMuladd sg0) := by
  refine entry_to (E := ⟨addC 39 (tTrim sg0) noC, Kall, LL_ma cond_ma phi_ma noL⟩) (u := 10) (d := 10) ((meets_none _).add eTrim) (LL_ma_ok LOk.none).ok (by kernel_rfl) (fun args r h => ?_)
  unfold tMuladd at h
  split at h
  · rename_i m f y a
    simp only [Option.some.injEq, Prod.mk.injEq, Bool.and_eq_true] at h
    obtain ⟨⟨⟨h1, h2⟩, h3⟩, rfl⟩ := h
    obtain ⟨a1, a2, a3, a4⟩ := oks_out h1
    unfold inU at h2 h3
    rw [Bool.and_eq_true, decide_eq_true_eq, decide_eq_true_eq] at h2 h3
    have hp : pre_ma y [] a (rowOf m f) (rowOf m f).length 0 := ⟨a2, a3, rfl, rfl, rfl, h2.1, h2.2, h3.1, h3.2⟩
    have hs := (phi_ma_spec _ _ _ _ _ _ hp).2
    have hcall := ma_call sg0 cond_ma phi_ma (rowOf m f) y a
    have key : callA Try.prog ⟨addC 39 (tTrim sg0) noC, Kall, LL_ma cond_ma phi_ma noL⟩ 10 10 21 [.lst false 47 (rowOf m f).length (lim (rowOf m f)), .val (.int .u32 y), .val (.int .u32 a)] = some (sg0.lmb (vL (rowOf m f) * y.toNat + a.toNat)) := by
      rw [hcall]
      simp only [rowOf_lim', Nat.mul_one, Nat.zero_add]
      rw [cond_ma_eq _ _ _ _ _ _ hp, okB_lim a2]
      generalize phi_ma y [] a (rowOf m f) (rowOf m f).length 0 = r at *
      obtain ⟨g1, g2, k, g3, g4, g5⟩ := hs
      have e : IntKind.u32.wrap r.2.1 = (k : Int) := by rw [g4, u32w, Nat.mod_eq_of_lt (by omega)]
      have l1 : (r.1 ++ [(k : Int)]).length = r.1.length + 1 := by rw [List.length_append]; rfl
      have o1 : okL (r.1 ++ [(k : Int)]) := okL_append.2 ⟨g1, by rw [okL_cons]; exact ⟨by omega, okL_nil⟩⟩
      have v1 : vL (r.1 ++ [(k : Int)]) = vL (rowOf m f) * y.toNat + a.toNat := by rw [vL_snoc, g2, Int.toNat_natCast, g5]
      rw [e, List.take_length, l1, i64T (z := ((rowOf m f).length : Int) + 1) (by omega), dT (show (4 : Int) * (((rowOf m f).length : Int) + 1) ≤ 281474976710656 by omega), dT (show ((rowOf m f).length : Int) + 1 ≤ 9223372036854775807 by omega), u64T (show 0 ≤ a ∧ a ≤ 18446744073709551615 by omega), room64 _ (by omega), dT (Nat.le_refl r.1.length), dT (Nat.le_refl (r.1.length + 1)), ← l1, okr_lim o1 (by omega), num_lim, v1]
      rfl
    refine ⟨_, _, key, fun B w ys hr => ?_, fun B w y hr => by rw [a4]; exact hr⟩
    obtain ⟨q, zs, rfl, q1, q2⟩ := hr
    exact ⟨q, _, rfl, norm_row a1 q1, q2⟩
  · cases h
end
end Go.Proofs.Ytndpfegbbpoopaa.L
namespace Go.Proofs.Ytndpfegbbpoopaa.L
open Go Go.V Go.RowKit Go.Proofs.Ytndpfegbbpoopaa.Sp Go.Proofs.Ytndpfegbbpoopaa.F
open Go.Proofs (Try.prog)
noncomputable section
def okd (d : ByteArray) (i : Nat) : Prop := 48 ≤ byteAt d i ∧ byteAt d i ≤ 57
def dig (d : ByteArray) (i : Nat) : Nat := (byteAt d i).toNat - 48
def vT (d : ByteArray) : Nat → Nat
  | 0 => 0
  | i + 1 => vT d i * 10 + dig d i
theorem dig_lt {d : ByteArray} {i : Nat} (h : okd d i) : dig d i < 10 := by have := h.1; have := h.2; unfold dig; omega
theorem vT_lt {d : ByteArray} : ∀ {i : Nat}, (∀ j, j < i → okd d j) → vT d i < 10 ^ i
  | 0, _ => by show 0 < 1; decide
  | i + 1, h => by
    have h1 := vT_lt (d := d) (i := i) (fun j hj => h j (by omega))
    have h2 := dig_lt (h i (by omega))
    show vT d i * 10 + dig d i < _
    rw [Nat.pow_succ]
    omega
abbrev p_iP : List Bool := [false, true, false, true, false, true, false, false, true, false, true, true, true, true, true]
def sh_iP (er : Int) (d : ByteArray) (ng : Bool) (xs : List Int) (i : Int) (n : Int) (y : Int) (k : Int) (rb : Bool) (rs : ByteArray) : List AV := slots 78 [(2, .ptr 0 0), (3, .val (.int .i64 er)), (4, .val (.string d)), (5, .val (.bool ng)), (6, .lst false 47 xs.length (lim xs)), (7, .val (.int .i64 i)), (8, .val (.int .u32 n)), (9, .val (.int .u32 y)), (10, .val (.int .i64 k))]
def hp_iP (er : Int) (d : ByteArray) (ng : Bool) (xs : List Int) (i : Int) (n : Int) (y : Int) (k : Int) (rb : Bool) (rs : ByteArray) : Hp := [.row (.cells [.val (.bool rb), .val (.string rs)]) 23 .live]
theorem body_iP : subC Try.prog 7 p_iP = some (.loop (lb 7 p_iP)) := by kernel_rfl
theorem code_iP : subC Try.prog 7 (false :: p_iP) = some (lb 7 p_iP) := by kernel_rfl
theorem round_iP  (er : Int) (d : ByteArray) (ng : Bool) (xs : List Int) (i : Int) (n : Int) (y : Int) (k : Int) (rb : Bool) (rs : ByteArray) :
    (roundA Try.prog EL0 7 [2, 3, 4, 5, 6, 7, 8, 9, 10] (lb 7 p_iP) (false :: p_iP) (sh_iP er d ng xs i n y k rb rs) (hp_iP er d ng xs i n y k rb rs) = (bif decide (k < (9 : Int)) then (bif decide (i < (↑d.size : Int)) then (bif decide ((0 : Int) ≤ i) && decide (i < (↑d.size : Int)) then (bif decide (byteAt d i.toNat < (48 : Int)) then some (.ret, slots 78 [(2, (.ptr 0 0)), (3, (.val (.int .i64 3))), (4, (.val (.string d))), (5, (.val (.bool ng))), (6, (.lst false 47 xs.length (lim xs))), (7, (.val (.int .i64 i))), (8, (.val (.int .u32 n))), (9, (.val (.int .u32 y))), (10, (.val (.int .i64 k)))], [(.row (.cells [(.val (.bool false)), (.val (.string (ByteArray.mk #[])))]) 23 .live)]) else (bif decide ((57 : Int) < byteAt d i.toNat) then some (.ret, slots 78 [(2, (.ptr 0 0)), (3, (.val (.int .i64 3))), (4, (.val (.string d))), (5, (.val (.bool ng))), (6, (.lst false 47 xs.length (lim xs))), (7, (.val (.int .i64 i))), (8, (.val (.int .u32 n))), (9, (.val (.int .u32 y))), (10, (.val (.int .i64 k)))], [(.row (.cells [(.val (.bool false)), (.val (.string (ByteArray.mk #[])))]) 23 .live)]) else (bif inR IntKind.u32 (IntKind.u8.wrap (byteAt d i.toNat - (48 : Int))) then (bif inR IntKind.i64 (i + (1 : Int)) then (bif inR IntKind.i64 (k + (1 : Int)) then some (.normal, slots 78 [(2, (.ptr 0 0)), (3, (.val (.int .i64 er))), (4, (.val (.string d))), (5, (.val (.bool ng))), (6, (.lst false 47 xs.length (lim xs))), (7, (.val (.int .i64 (i + (1 : Int))))), (8, (.val (.int .u32 (IntKind.u32.wrap (IntKind.u32.wrap ((10 : Int) * n) + IntKind.u8.wrap (byteAt d i.toNat - (48 : Int))))))), (9, (.val (.int .u32 (IntKind.u32.wrap ((10 : Int) * y))))), (10, (.val (.int .i64 (k + (1 : Int)))))], [(.row (.cells [(.val (.bool rb)), (.val (.string rs))]) 23 .live)]) else none) else none) else none))) else none) else some ((.exit 2), slots 78 [(2, (.ptr 0 0)), (3, (.val (.int .i64 er))), (4, (.val (.string d))), (5, (.val (.bool ng))), (6, (.lst false 47 xs.length (lim xs))), (7, (.val (.int .i64 i))), (8, (.val (.int .u32 n))), (9, (.val (.int .u32 y))), (10, (.val (.int .i64 k)))], [(.row (.cells [(.val (.bool rb)), (.val (.string rs))]) 23 .live)])) else some ((.exit 2), slots 78 [(2, (.ptr 0 0)), (3, (.val (.int .i64 er))), (4, (.val (.string d))), (5, (.val (.bool ng))), (6, (.lst false 47 xs.length (lim xs))), (7, (.val (.int .i64 i))), (8, (.val (.int .u32 n))), (9, (.val (.int .u32 y))), (10, (.val (.int .i64 k)))], [(.row (.cells [(.val (.bool rb)), (.val (.string rs))]) 23 .live)]))) := by kernel_rfl
theorem step_iP {er : Int} {d : ByteArray} {ng : Bool} {xs : List Int} {i : Int} {n : Int} {y : Int} {k : Int} {rb : Bool} {rs : ByteArray} {e : Ex} {T : List AV} {H : Hp} (h : roundA Try.prog EL0 7 [2, 3, 4, 5, 6, 7, 8, 9, 10] (lb 7 p_iP) (false :: p_iP) (sh_iP er d ng xs i n y k rb rs) (hp_iP er d ng xs i n y k rb rs) = some (e, T, H)) : V.Ends Try.prog false 0 0 (lb 7 p_iP) (sh_iP er d ng xs i n y k rb rs) (hp_iP er d ng xs i n y k rb rs) e T H :=
  round_ends (meets_none _) loops_none mixed code_iP h
abbrev p_iQ : List Bool := [false, true, false, true, false, true, false, false, true, false, true, true, true, true, true]
def sh_iQ (er : Int) (d : ByteArray) (ng : Bool) (xs : List Int) (i : Int) (n : Int) (y : Int) (k : Int) (rb : Bool) (rs : ByteArray) : List AV := slots 78 [(2, .ptr 0 0), (3, .val (.int .i64 er)), (4, .val (.string d)), (5, .val (.bool ng)), (6, .lst false 47 xs.length (lim xs)), (7, .val (.int .i64 i)), (8, .val (.int .u32 n)), (9, .val (.int .u32 y)), (10, .val (.int .i64 k))]
def hp_iQ (er : Int) (d : ByteArray) (ng : Bool) (xs : List Int) (i : Int) (n : Int) (y : Int) (k : Int) (rb : Bool) (rs : ByteArray) : Hp := [.row (.cells [.val (.bool rb), .val (.string rs)]) 23 .live]
theorem body_iQ : subC Try.prog 7 p_iQ = some (.loop (lb 7 p_iQ)) := by kernel_rfl
def pre_iP (er : Int) (d : ByteArray) (ng : Bool) (xs : List Int) (i n y k : Int) (rb : Bool) (rs : ByteArray) : Prop := n = 0 ∧ y = 1 ∧ k = 0 ∧ ∃ j : Nat, i = j ∧ j < d.size ∧ d.size ≤ 1000000 ∧ ∀ l, j ≤ l → l < j + 9 → l < d.size → okd d l
def grp (d : ByteArray) (j : Nat) (ρ : Int × Int × Int × Int) : Prop := ∃ k' n' : Nat, ρ.1 = ((j + k' : Nat) : Int) ∧ 0 < k' ∧ k' ≤ 9 ∧ j + k' ≤ d.size ∧ ρ.2.1 = n' ∧ n' < 10 ^ k' ∧ ρ.2.2.1 = ((10 ^ k' : Nat) : Int) ∧ vT d (j + k') = vT d j * 10 ^ k' + n'
def post_iP (er : Int) (d : ByteArray) (ng : Bool) (xs : List Int) (i n y k : Int) (rb : Bool) (rs : ByteArray) (ρ : Int × Int × Int × Int) : Prop := grp d i.toNat ρ
theorem p9 {k : Nat} (h : k ≤ 9) : 10 ^ k ≤ 1000000000 := Nat.le_trans (Nat.pow_le_pow_right (by decide) h) (by decide)
theorem iP_dig (er : Int) (d : ByteArray) (ng : Bool) (xs : List Int) (rb : Bool) (rs : ByteArray) {j k n : Nat} (hk : k < 9) (hj : j < d.size) (hd : d.size ≤ 1000000) (ho : okd d j) (hn : n < 10 ^ k) :
    roundA Try.prog EL0 7 [2, 3, 4, 5, 6, 7, 8, 9, 10] (lb 7 p_iP) (false :: p_iP) (sh_iP er d ng xs j n ((10 ^ k : Nat) : Int) k rb rs) (hp_iP er d ng xs j n ((10 ^ k : Nat) : Int) k rb rs) = some (.normal, sh_iP er d ng xs ((j + 1 : Nat) : Int) ((n * 10 + dig d j : Nat) : Int) ((10 ^ (k + 1) : Nat) : Int) ((k + 1 : Nat) : Int) rb rs, hp_iP er d ng xs ((j + 1 : Nat) : Int) ((n * 10 + dig d j : Nat) : Int) ((10 ^ (k + 1) : Nat) : Int) ((k + 1 : Nat) : Int) rb rs) := by
  have h9 := p9 (show k ≤ 9 by omega)
  have h91 := p9 (show k + 1 ≤ 9 by omega)
  rw [Nat.pow_succ] at h91 ⊢
  obtain ⟨o1, o2⟩ := ho
  have hdg : dig d j = (byteAt d j).toNat - 48 := rfl
  generalize hp : 10 ^ k = p at *
  rw [round_iP, Int.toNat_natCast]
  generalize hb : byteAt d j = b at *
  obtain ⟨c, rfl⟩ := Int.eq_ofNat_of_zero_le (show 0 ≤ b by omega)
  have e1 : IntKind.u8.wrap ((c : Int) - 48) = ((c - 48 : Nat) : Int) := by rw [IntKind.wrap_u8]; omega
  have e2 : IntKind.u32.wrap (10 * (n : Int)) = ((n * 10 : Nat) : Int) := by rw [IntKind.wrap_u32]; omega
  have e3 : IntKind.u32.wrap (((n * 10 : Nat) : Int) + ((c - 48 : Nat) : Int)) = ((n * 10 + (c - 48) : Nat) : Int) := by rw [IntKind.wrap_u32]; omega
  have e4 : IntKind.u32.wrap (10 * ((p : Nat) : Int)) = ((p * 10 : Nat) : Int) := by rw [IntKind.wrap_u32]; omega
  rw [Int.toNat_natCast] at hdg
  rw [e1, e2, e3, e4, hdg, dT (show (k : Int) < 9 by omega), dT (show (j : Int) < (d.size : Int) by omega), dT (show (0 : Int) ≤ (j : Int) by omega), dF (show ¬ (c : Int) < 48 by omega), dF (show ¬ (57 : Int) < (c : Int) by omega), u32T (z := ((c - 48 : Nat) : Int)) (by omega), i64T (z := (j : Int) + 1) (by omega), i64T (z := (k : Int) + 1) (by omega)]
  rfl
theorem iP_go (er : Int) (d : ByteArray) (ng : Bool) (xs : List Int) (rb : Bool) (rs : ByteArray) (j : Nat) (hj : j < d.size) (hd : d.size ≤ 1000000) (ho : ∀ l, j ≤ l → l < j + 9 → l < d.size → okd d l) (m : Nat) : ∀ (k n : Nat), k + m = 9 → j + k ≤ d.size → n < 10 ^ k → vT d (j + k) = vT d j * 10 ^ k + n → (k = 0 → True) →
    ∃ ρ : Int × Int × Int × Int, LoopTo Try.prog (lb 7 p_iP) (sh_iP er d ng xs ((j + k : Nat) : Int) n ((10 ^ k : Nat) : Int) k rb rs) (hp_iP er d ng xs ((j + k : Nat) : Int) n ((10 ^ k : Nat) : Int) k rb rs) (.exit 2) (sh_iP er d ng xs ρ.1 ρ.2.1 ρ.2.2.1 ρ.2.2.2 rb rs) (hp_iP er d ng xs ρ.1 ρ.2.1 ρ.2.2.1 ρ.2.2.2 rb rs) ∧ grp d j ρ := by
  have fin : ∀ (k n : Nat), k ≤ 9 → 0 < k → j + k ≤ d.size → n < 10 ^ k → vT d (j + k) = vT d j * 10 ^ k + n → grp d j (((j + k : Nat) : Int), (n : Int), ((10 ^ k : Nat) : Int), (k : Int)) := fun k n h1 h0 h2 h3 h4 => ⟨k, n, rfl, h0, h1, h2, rfl, h3, rfl, h4⟩
  induction m with
  | zero =>
    intro k n hk h1 h2 h3 _
    have hk : k = 9 := by omega
    subst hk
    refine ⟨_, .last (step_iP ?_) (by intro h; cases h), fin 9 n (Nat.le_refl _) (by decide) h1 h2 h3⟩
    rw [round_iP, dF (show ¬ ((9 : Nat) : Int) < 9 by decide)]
    rfl
  | succ m ih =>
    intro k n hk h1 h2 h3 _
    by_cases hs : j + k < d.size
    · have hok := ho (j + k) (by omega) (by omega) hs
      have hdl := dig_lt hok
      obtain ⟨ρ, g1, g2⟩ := ih (k + 1) (n * 10 + dig d (j + k)) (by omega) (by omega) (by rw [Nat.pow_succ]; omega) (by
        show vT d (j + k) * 10 + dig d (j + k) = _
        rw [h3, Nat.pow_succ, Nat.add_mul, Nat.mul_assoc]; omega) (fun h => trivial)
      exact ⟨ρ, .more (step_iP (iP_dig er d ng xs rb rs (by omega) hs hd hok h2)) g1, g2⟩
    · have hk0 : 0 < k := by omega
      refine ⟨_, .last (step_iP ?_) (by intro h; cases h), fin k n (by omega) hk0 h1 h2 h3⟩
      rw [round_iP, dT (show (k : Int) < 9 by omega), dF (show ¬ ((j + k : Nat) : Int) < (d.size : Int) by omega)]
      rfl
theorem loop_iP (er : Int) (d : ByteArray) (ng : Bool) (xs : List Int) (i n y k : Int) (rb : Bool) (rs : ByteArray) (h : pre_iP er d ng xs i n y k rb rs) : ∃ ρ : Int × Int × Int × Int, LoopTo Try.prog (lb 7 p_iP) (sh_iP er d ng xs i n y k rb rs) (hp_iP er d ng xs i n y k rb rs) (.exit 2) (sh_iP er d ng xs ρ.1 ρ.2.1 ρ.2.2.1 ρ.2.2.2 rb rs) (hp_iP er d ng xs ρ.1 ρ.2.1 ρ.2.2.1 ρ.2.2.2 rb rs) ∧ post_iP er d ng xs i n y k rb rs ρ := by
  obtain ⟨rfl, rfl, rfl, j, rfl, hj, hd, ho⟩ := h
  exact iP_go er d ng xs rb rs j hj hd ho 9 0 0 rfl (by omega) (by decide) (by rw [Nat.pow_zero, Nat.mul_one]; rfl) (fun _ => trivial)
def told_iP (κ : Int → ByteArray → Bool → List Int → Int → Int → Int → Int → Bool → ByteArray → Bool) (φ : Int → ByteArray → Bool → List Int → Int → Int → Int → Int → Bool → ByteArray → Int × Int × Int × Int) (T : List AV) (H : Hp) : Option (Bool × Ex × List AV × Hp) :=
  match lget T 2, lget T 3, lget T 4, lget T 5, lget T 6, lget T 7, lget T 8, lget T 9, lget T 10, H with
  | .ptr 0 0, .val (.int .i64 er), .val (.string d), .val (.bool ng), .lst false 47 m_xs f_xs, .val (.int .i64 i), .val (.int .u32 n), .val (.int .u32 y), .val (.int .i64 k), [.row (.cells [.val (.bool rb), .val (.string rs)]) 23 .live] => bif T.length == 78 then some (okB m_xs f_xs && κ er d ng (rowOf m_xs f_xs) i n y k rb rs, .exit 2, sh_iP er d ng (rowOf m_xs f_xs) ((φ er d ng (rowOf m_xs f_xs) i n y k rb rs).1) ((φ er d ng (rowOf m_xs f_xs) i n y k rb rs).2.1) ((φ er d ng (rowOf m_xs f_xs) i n y k rb rs).2.2.1) ((φ er d ng (rowOf m_xs f_xs) i n y k rb rs).2.2.2) rb rs, hp_iP er d ng (rowOf m_xs f_xs) ((φ er d ng (rowOf m_xs f_xs) i n y k rb rs).1) ((φ er d ng (rowOf m_xs f_xs) i n y k rb rs).2.1) ((φ er d ng (rowOf m_xs f_xs) i n y k rb rs).2.2.1) ((φ er d ng (rowOf m_xs f_xs) i n y k rb rs).2.2.2) rb rs) else none
  | _, _, _, _, _, _, _, _, _, _ => none
abbrev KT_iP : Type := Int → ByteArray → Bool → List Int → Int → Int → Int → Int → Bool → ByteArray → Bool
abbrev FT_iP : Type := Int → ByteArray → Bool → List Int → Int → Int → Int → Int → Bool → ByteArray → Int × Int × Int × Int
def LL_iP (κ : KT_iP) (φ : FT_iP) (L : LTab) : LTab := addLn 0 7 p_iP [2, 3, 4, 5, 6, 7, 8, 9, 10] (told_iP κ φ) L
def phi_iP (er : Int) (d : ByteArray) (ng : Bool) (xs : List Int) (i : Int) (n : Int) (y : Int) (k : Int) (rb : Bool) (rs : ByteArray) : Int × Int × Int × Int := Classical.epsilon fun ρ => LoopTo Try.prog (lb 7 p_iP) (sh_iP er d ng xs i n y k rb rs) (hp_iP er d ng xs i n y k rb rs) (.exit 2) (sh_iP er d ng xs (ρ.1) (ρ.2.1) (ρ.2.2.1) (ρ.2.2.2) rb rs) (hp_iP er d ng xs (ρ.1) (ρ.2.1) (ρ.2.2.1) (ρ.2.2.2) rb rs) ∧ post_iP er d ng xs i n y k rb rs ρ
theorem phi_iP_spec (er : Int) (d : ByteArray) (ng : Bool) (xs : List Int) (i : Int) (n : Int) (y : Int) (k : Int) (rb : Bool) (rs : ByteArray) (h : pre_iP er d ng xs i n y k rb rs) : LoopTo Try.prog (lb 7 p_iP) (sh_iP er d ng xs i n y k rb rs) (hp_iP er d ng xs i n y k rb rs) (.exit 2) (sh_iP er d ng xs ((phi_iP er d ng xs i n y k rb rs).1) ((phi_iP er d ng xs i n y k rb rs).2.1) ((phi_iP er d ng xs i n y k rb rs).2.2.1) ((phi_iP er d ng xs i n y k rb rs).2.2.2) rb rs) (hp_iP er d ng xs ((phi_iP er d ng xs i n y k rb rs).1) ((phi_iP er d ng xs i n y k rb rs).2.1) ((phi_iP er d ng xs i n y k rb rs).2.2.1) ((phi_iP er d ng xs i n y k rb rs).2.2.2) rb rs) ∧ post_iP er d ng xs i n y k rb rs (phi_iP er d ng xs i n y k rb rs) := Classical.epsilon_spec (loop_iP er d ng xs i n y k rb rs h)
def cond_iP (er : Int) (d : ByteArray) (ng : Bool) (xs : List Int) (i : Int) (n : Int) (y : Int) (k : Int) (rb : Bool) (rs : ByteArray) : Bool := @decide (pre_iP er d ng xs i n y k rb rs) (Classical.propDecidable _)
theorem cond_iP_eq (er : Int) (d : ByteArray) (ng : Bool) (xs : List Int) (i : Int) (n : Int) (y : Int) (k : Int) (rb : Bool) (rs : ByteArray) (h : pre_iP er d ng xs i n y k rb rs) : cond_iP er d ng xs i n y k rb rs = true := @decide_eq_true _ (Classical.propDecidable _) h
theorem told_iP_ok (T : List AV) (H : Hp) (e : Ex) (T1 : List AV) (H1 : Hp) (h : told_iP cond_iP phi_iP T H = some (true, e, T1, H1)) : V.Ends Try.prog false 0 0 (.loop (lb 7 p_iP)) T H e T1 H1 := by
  unfold told_iP at h
  split at h
  · rename_i er d ng m_xs f_xs i n y k rb rs h2 h3 h4 h5 h6 h7 h8 h9 h10
    rw [Bool.cond_eq_ite] at h
    split at h
    · rename_i hlen
      rw [beq_iff_eq] at hlen
      simp only [Option.some.injEq, Prod.mk.injEq, Bool.and_eq_true, decide_eq_true_eq] at h
      obtain ⟨⟨k1, k2⟩, rfl, rfl, rfl⟩ := h
      have kc := @of_decide_eq_true _ (Classical.propDecidable _) k2
      refine Ends.pre (phi_iP_spec er d ng (rowOf m_xs f_xs) i n y k rb rs kc).1.ends (fun α B w D ys hr => slots_rel hlen (fun p hp y hy => ?_) hr)
      simp only [List.mem_cons, List.not_mem_nil, or_false] at hp
      rcases hp with rfl | rfl | rfl | rfl | rfl | rfl | rfl | rfl | rfl
      · rw [h2] at hy; exact hy
      · rw [h3] at hy; exact hy
      · rw [h4] at hy; exact hy
      · rw [h5] at hy; exact hy
      · rw [h6] at hy; rw [rowOf_len]; exact row_norm cells47 k1 hy
      · rw [h7] at hy; exact hy
      · rw [h8] at hy; exact hy
      · rw [h9] at hy; exact hy
      · rw [h10] at hy; exact hy
    · cases h
  · cases h
theorem LL_iP_ok {L : LTab} (h : LOk Try.prog L) : LOk Try.prog (LL_iP cond_iP phi_iP L) := h.add2n body_iP told_iP_ok
def pre_iQ (er : Int) (d : ByteArray) (ng : Bool) (xs : List Int) (i n y k : Int) (rb : Bool) (rs : ByteArray) : Prop := n = 0 ∧ y = 1 ∧ k = 0 ∧ ∃ j m : Nat, i = j ∧ m < 9 ∧ j + m < d.size ∧ d.size ≤ 1000000 ∧ (∀ l, j ≤ l → l < j + m → okd d l) ∧ ¬ okd d (j + m)
def post_iQ (er : Int) (d : ByteArray) (ng : Bool) (xs : List Int) (i n y k : Int) (rb : Bool) (rs : ByteArray) (ρ : Int × Int × Int × Int × Int × Bool × ByteArray) : Prop := ρ.1 = 3 ∧ ρ.2.2.2.2.2.1 = false ∧ ρ.2.2.2.2.2.2 = ByteArray.mk #[]
theorem iQ_go (er : Int) (d : ByteArray) (ng : Bool) (xs : List Int) (rb : Bool) (rs : ByteArray) (j : Nat) (hd : d.size ≤ 1000000) (m : Nat) : ∀ (k n : Nat), k + m < 9 → j + k + m < d.size → (∀ l, j ≤ l → l < j + k + m → okd d l) → ¬ okd d (j + k + m) → n < 10 ^ k →
    ∃ ρ : Int × Int × Int × Int × Int × Bool × ByteArray, LoopTo Try.prog (lb 7 p_iP) (sh_iP er d ng xs ((j + k : Nat) : Int) n ((10 ^ k : Nat) : Int) k rb rs) (hp_iP er d ng xs ((j + k : Nat) : Int) n ((10 ^ k : Nat) : Int) k rb rs) .ret (sh_iP ρ.1 d ng xs ρ.2.1 ρ.2.2.1 ρ.2.2.2.1 ρ.2.2.2.2.1 ρ.2.2.2.2.2.1 ρ.2.2.2.2.2.2) (hp_iP ρ.1 d ng xs ρ.2.1 ρ.2.2.1 ρ.2.2.2.1 ρ.2.2.2.2.1 ρ.2.2.2.2.2.1 ρ.2.2.2.2.2.2) ∧ ρ.1 = 3 ∧ ρ.2.2.2.2.2.1 = false ∧ ρ.2.2.2.2.2.2 = ByteArray.mk #[] := by
  induction m with
  | zero =>
    intro k n hk hs ho hb hn
    rw [Nat.add_zero] at hb hs
    refine ⟨(3, ((j + k : Nat) : Int), (n : Int), ((10 ^ k : Nat) : Int), (k : Int), false, ByteArray.mk #[]), .last (step_iP ?_) (by intro h; cases h), rfl, rfl, rfl⟩
    rw [round_iP, Int.toNat_natCast, dT (show (k : Int) < 9 by omega), dT (show ((j + k : Nat) : Int) < (d.size : Int) by omega), dT (show (0 : Int) ≤ ((j + k : Nat) : Int) by omega)]
    by_cases h1 : byteAt d (j + k) < 48
    · rw [dT h1]; rfl
    · have h2 : 57 < byteAt d (j + k) := by
        refine Int.lt_of_not_ge fun h => hb ⟨by omega, h⟩
      rw [dF h1, dT h2]; rfl
  | succ m ih =>
    intro k n hk hs ho hb hn
    have hok := ho (j + k) (by omega) (by omega)
    have hdl := dig_lt hok
    obtain ⟨ρ, g1, g2⟩ := ih (k + 1) (n * 10 + dig d (j + k)) (by omega) (by omega) (fun l h1 h2 => ho l h1 (by omega)) (by rw [show j + (k + 1) + m = j + k + (m + 1) by omega]; exact hb) (by rw [Nat.pow_succ]; omega)
    exact ⟨ρ, .more (step_iP (iP_dig er d ng xs rb rs (by omega) (by omega) hd hok hn)) g1, g2⟩
theorem loop_iQ (er : Int) (d : ByteArray) (ng : Bool) (xs : List Int) (i n y k : Int) (rb : Bool) (rs : ByteArray) (h : pre_iQ er d ng xs i n y k rb rs) : ∃ ρ : Int × Int × Int × Int × Int × Bool × ByteArray, LoopTo Try.prog (lb 7 p_iQ) (sh_iQ er d ng xs i n y k rb rs) (hp_iQ er d ng xs i n y k rb rs) .ret (sh_iQ ρ.1 d ng xs ρ.2.1 ρ.2.2.1 ρ.2.2.2.1 ρ.2.2.2.2.1 ρ.2.2.2.2.2.1 ρ.2.2.2.2.2.2) (hp_iQ ρ.1 d ng xs ρ.2.1 ρ.2.2.1 ρ.2.2.2.1 ρ.2.2.2.2.1 ρ.2.2.2.2.2.1 ρ.2.2.2.2.2.2) ∧ post_iQ er d ng xs i n y k rb rs ρ := by
  obtain ⟨rfl, rfl, rfl, j, m, rfl, hm, hj, hd, ho, hb⟩ := h
  exact iQ_go er d ng xs rb rs j hd m 0 0 (by omega) hj ho hb (by decide)
def told_iQ (κ : Int → ByteArray → Bool → List Int → Int → Int → Int → Int → Bool → ByteArray → Bool) (φ : Int → ByteArray → Bool → List Int → Int → Int → Int → Int → Bool → ByteArray → Int × Int × Int × Int × Int × Bool × ByteArray) (T : List AV) (H : Hp) : Option (Bool × Ex × List AV × Hp) :=
  match lget T 2, lget T 3, lget T 4, lget T 5, lget T 6, lget T 7, lget T 8, lget T 9, lget T 10, H with
  | .ptr 0 0, .val (.int .i64 er), .val (.string d), .val (.bool ng), .lst false 47 m_xs f_xs, .val (.int .i64 i), .val (.int .u32 n), .val (.int .u32 y), .val (.int .i64 k), [.row (.cells [.val (.bool rb), .val (.string rs)]) 23 .live] => bif T.length == 78 then some (okB m_xs f_xs && κ er d ng (rowOf m_xs f_xs) i n y k rb rs, .ret, sh_iQ ((φ er d ng (rowOf m_xs f_xs) i n y k rb rs).1) d ng (rowOf m_xs f_xs) ((φ er d ng (rowOf m_xs f_xs) i n y k rb rs).2.1) ((φ er d ng (rowOf m_xs f_xs) i n y k rb rs).2.2.1) ((φ er d ng (rowOf m_xs f_xs) i n y k rb rs).2.2.2.1) ((φ er d ng (rowOf m_xs f_xs) i n y k rb rs).2.2.2.2.1) ((φ er d ng (rowOf m_xs f_xs) i n y k rb rs).2.2.2.2.2.1) ((φ er d ng (rowOf m_xs f_xs) i n y k rb rs).2.2.2.2.2.2), hp_iQ ((φ er d ng (rowOf m_xs f_xs) i n y k rb rs).1) d ng (rowOf m_xs f_xs) ((φ er d ng (rowOf m_xs f_xs) i n y k rb rs).2.1) ((φ er d ng (rowOf m_xs f_xs) i n y k rb rs).2.2.1) ((φ er d ng (rowOf m_xs f_xs) i n y k rb rs).2.2.2.1) ((φ er d ng (rowOf m_xs f_xs) i n y k rb rs).2.2.2.2.1) ((φ er d ng (rowOf m_xs f_xs) i n y k rb rs).2.2.2.2.2.1) ((φ er d ng (rowOf m_xs f_xs) i n y k rb rs).2.2.2.2.2.2)) else none
  | _, _, _, _, _, _, _, _, _, _ => none
abbrev KT_iQ : Type := Int → ByteArray → Bool → List Int → Int → Int → Int → Int → Bool → ByteArray → Bool
abbrev FT_iQ : Type := Int → ByteArray → Bool → List Int → Int → Int → Int → Int → Bool → ByteArray → Int × Int × Int × Int × Int × Bool × ByteArray
def LL_iQ (κ : KT_iQ) (φ : FT_iQ) (L : LTab) : LTab := addLn 0 7 p_iQ [2, 3, 4, 5, 6, 7, 8, 9, 10] (told_iQ κ φ) L
def phi_iQ (er : Int) (d : ByteArray) (ng : Bool) (xs : List Int) (i : Int) (n : Int) (y : Int) (k : Int) (rb : Bool) (rs : ByteArray) : Int × Int × Int × Int × Int × Bool × ByteArray := Classical.epsilon fun ρ => LoopTo Try.prog (lb 7 p_iQ) (sh_iQ er d ng xs i n y k rb rs) (hp_iQ er d ng xs i n y k rb rs) (.ret) (sh_iQ (ρ.1) d ng xs (ρ.2.1) (ρ.2.2.1) (ρ.2.2.2.1) (ρ.2.2.2.2.1) (ρ.2.2.2.2.2.1) (ρ.2.2.2.2.2.2)) (hp_iQ (ρ.1) d ng xs (ρ.2.1) (ρ.2.2.1) (ρ.2.2.2.1) (ρ.2.2.2.2.1) (ρ.2.2.2.2.2.1) (ρ.2.2.2.2.2.2)) ∧ post_iQ er d ng xs i n y k rb rs ρ
theorem phi_iQ_spec (er : Int) (d : ByteArray) (ng : Bool) (xs : List Int) (i : Int) (n : Int) (y : Int) (k : Int) (rb : Bool) (rs : ByteArray) (h : pre_iQ er d ng xs i n y k rb rs) : LoopTo Try.prog (lb 7 p_iQ) (sh_iQ er d ng xs i n y k rb rs) (hp_iQ er d ng xs i n y k rb rs) (.ret) (sh_iQ ((phi_iQ er d ng xs i n y k rb rs).1) d ng xs ((phi_iQ er d ng xs i n y k rb rs).2.1) ((phi_iQ er d ng xs i n y k rb rs).2.2.1) ((phi_iQ er d ng xs i n y k rb rs).2.2.2.1) ((phi_iQ er d ng xs i n y k rb rs).2.2.2.2.1) ((phi_iQ er d ng xs i n y k rb rs).2.2.2.2.2.1) ((phi_iQ er d ng xs i n y k rb rs).2.2.2.2.2.2)) (hp_iQ ((phi_iQ er d ng xs i n y k rb rs).1) d ng xs ((phi_iQ er d ng xs i n y k rb rs).2.1) ((phi_iQ er d ng xs i n y k rb rs).2.2.1) ((phi_iQ er d ng xs i n y k rb rs).2.2.2.1) ((phi_iQ er d ng xs i n y k rb rs).2.2.2.2.1) ((phi_iQ er d ng xs i n y k rb rs).2.2.2.2.2.1) ((phi_iQ er d ng xs i n y k rb rs).2.2.2.2.2.2)) ∧ post_iQ er d ng xs i n y k rb rs (phi_iQ er d ng xs i n y k rb rs) := Classical.epsilon_spec (loop_iQ er d ng xs i n y k rb rs h)
def cond_iQ (er : Int) (d : ByteArray) (ng : Bool) (xs : List Int) (i : Int) (n : Int) (y : Int) (k : Int) (rb : Bool) (rs : ByteArray) : Bool := @decide (pre_iQ er d ng xs i n y k rb rs) (Classical.propDecidable _)
theorem cond_iQ_eq (er : Int) (d : ByteArray) (ng : Bool) (xs : List Int) (i : Int) (n : Int) (y : Int) (k : Int) (rb : Bool) (rs : ByteArray) (h : pre_iQ er d ng xs i n y k rb rs) : cond_iQ er d ng xs i n y k rb rs = true := @decide_eq_true _ (Classical.propDecidable _) h
theorem told_iQ_ok (T : List AV) (H : Hp) (e : Ex) (T1 : List AV) (H1 : Hp) (h : told_iQ cond_iQ phi_iQ T H = some (true, e, T1, H1)) : V.Ends Try.prog false 0 0 (.loop (lb 7 p_iQ)) T H e T1 H1 := by
  unfold told_iQ at h
  split at h
  · rename_i er d ng m_xs f_xs i n y k rb rs h2 h3 h4 h5 h6 h7 h8 h9 h10
    rw [Bool.cond_eq_ite] at h
    split at h
    · rename_i hlen
      rw [beq_iff_eq] at hlen
      simp only [Option.some.injEq, Prod.mk.injEq, Bool.and_eq_true, decide_eq_true_eq] at h
      obtain ⟨⟨k1, k2⟩, rfl, rfl, rfl⟩ := h
      have kc := @of_decide_eq_true _ (Classical.propDecidable _) k2
      refine Ends.pre (phi_iQ_spec er d ng (rowOf m_xs f_xs) i n y k rb rs kc).1.ends (fun α B w D ys hr => slots_rel hlen (fun p hp y hy => ?_) hr)
      simp only [List.mem_cons, List.not_mem_nil, or_false] at hp
      rcases hp with rfl | rfl | rfl | rfl | rfl | rfl | rfl | rfl | rfl
      · rw [h2] at hy; exact hy
      · rw [h3] at hy; exact hy
      · rw [h4] at hy; exact hy
      · rw [h5] at hy; exact hy
      · rw [h6] at hy; rw [rowOf_len]; exact row_norm cells47 k1 hy
      · rw [h7] at hy; exact hy
      · rw [h8] at hy; exact hy
      · rw [h9] at hy; exact hy
      · rw [h10] at hy; exact hy
    · cases h
  · cases h
theorem LL_iQ_ok {L : LTab} (h : LOk Try.prog L) : LOk Try.prog (LL_iQ cond_iQ phi_iQ L) := h.add2n body_iQ told_iQ_ok
end
end Go.Proofs.Ytndpfegbbpoopaa.L
namespace Go.Proofs.Ytndpfegbbpoopaa.L
open Go Go.V Go.RowKit Go.Proofs.Ytndpfegbbpoopaa.Sp Go.Proofs.Ytndpfegbbpoopaa.F
open Go.Proofs (Try.prog)
noncomputable section
def CMa (S : Sg) : FuncId → List AV → Option (Bool × AV) := addC 21 (tMuladd S) noC
def EpG (S : Sg) (κ : KT_iP) (φ : FT_iP) : Env := ⟨CMa S, fun _ => false, LL_iP κ φ noL⟩
def EpB (S : Sg) (κ : KT_iQ) (φ : FT_iQ) : Env := ⟨CMa S, fun _ => false, LL_iQ κ φ noL⟩
abbrev p_pO : List Bool := [false, true, false, true, true, true, true, true]
def sh_pO (er : Int) (d : ByteArray) (ng : Bool) (xs : List Int) (i : Int) (rb : Bool) (rs : ByteArray) : List AV := slots 78 [(2, .ptr 0 0), (3, .val (.int .i64 er)), (4, .val (.string d)), (5, .val (.bool ng)), (6, .lst false 47 xs.length (lim xs)), (7, .val (.int .i64 i))]
def hp_pO (er : Int) (d : ByteArray) (ng : Bool) (xs : List Int) (i : Int) (rb : Bool) (rs : ByteArray) : Hp := [.row (.cells [.val (.bool rb), .val (.string rs)]) 23 .live]
theorem body_pO : subC Try.prog 7 p_pO = some (.loop (lb 7 p_pO)) := by kernel_rfl
theorem code_pO : subC Try.prog 7 (false :: p_pO) = some (lb 7 p_pO) := by kernel_rfl
theorem round_pO (S : Sg) (κ : KT_iP) (φ : FT_iP) (er : Int) (d : ByteArray) (ng : Bool) (xs : List Int) (i : Int) (rb : Bool) (rs : ByteArray) : letI q_2 := (rowOf xs.length (lim xs)); letI q_1 := (φ er d ng q_2 i (0 : Int) (1 : Int) (0 : Int) rb rs);
    (roundA Try.prog (EpG S κ φ) 7 [2, 3, 4, 5, 6, 7] (lb 7 p_pO) (false :: p_pO) (sh_pO er d ng xs i rb rs) (hp_pO er d ng xs i rb rs) = (bif decide (i < (↑d.size : Int)) then (bif okB xs.length (lim xs) && κ er d ng q_2 i (0 : Int) (1 : Int) (0 : Int) rb rs then (bif S.oks q_2.length (lim q_2) && inU q_1.snd.snd.fst && inU q_1.snd.fst then some (.normal, slots 78 [(2, (.ptr 0 0)), (3, (.val (.int .i64 er))), (4, (.val (.string d))), (5, (.val (.bool ng))), (6, (.lst false 47 (S.len (S.num q_2.length (lim q_2) * q_1.snd.snd.fst.toNat + q_1.snd.fst.toNat)) (S.row (S.num q_2.length (lim q_2) * q_1.snd.snd.fst.toNat + q_1.snd.fst.toNat)))), (7, (.val (.int .i64 (q_1.fst))))], [(.row (.cells [(.val (.bool rb)), (.val (.string rs))]) 23 .live)]) else none) else none) else some ((.exit 0), slots 78 [(2, (.ptr 0 0)), (3, (.val (.int .i64 er))), (4, (.val (.string d))), (5, (.val (.bool ng))), (6, (.lst false 47 xs.length (lim xs))), (7, (.val (.int .i64 i)))], [(.row (.cells [(.val (.bool rb)), (.val (.string rs))]) 23 .live)]))) := by kernel_rfl
theorem step_pO {er : Int} {d : ByteArray} {ng : Bool} {xs : List Int} {i : Int} {rb : Bool} {rs : ByteArray} {e : Ex} {T : List AV} {H : Hp} (h : roundA Try.prog (EpG sg0 cond_iP phi_iP) 7 [2, 3, 4, 5, 6, 7] (lb 7 p_pO) (false :: p_pO) (sh_pO er d ng xs i rb rs) (hp_pO er d ng xs i rb rs) = some (e, T, H)) : V.Ends Try.prog false 0 0 (lb 7 p_pO) (sh_pO er d ng xs i rb rs) (hp_pO er d ng xs i rb rs) e T H :=
  round_ends ((meets_none _).add eMuladd) (LL_iP_ok LOk.none).ok mixed code_pO h
theorem nil_lst {t : TypeId} {α : Nat → Nat × Nat} {B : Nat → Prop} {w : World} {D : Nat → Prop} {x : Value} (h : (AV.val (.slice none 0 0)).Rel Try.prog α B w D x) : (AV.lst false t ([] : List Int).length (lim [])).Rel Try.prog α B w D x :=
  ⟨none, 0, h, Nat.le_refl _, (fun h => by cases h), .inl rfl⟩
theorem bs_dec {n i : Nat} (h : n < 10 ^ i) : bs n ≤ i := bs_le (Nat.lt_of_lt_of_le h (Nat.pow_le_pow_left (by decide) i))
theorem oks_dec {n i : Nat} (h : n < 10 ^ i) (hi : i ≤ 1000000) : sg0.oks (toL n).length (lim (toL n)) = true := oks_row (by have := bs_dec h; omega)
theorem num_toL' (n : Nat) : sg0.num (toL n).length (lim (toL n)) = n := num_row n
def pre_pO (er : Int) (d : ByteArray) (ng : Bool) (xs : List Int) (i : Int) (rb : Bool) (rs : ByteArray) : Prop := xs = [] ∧ i = 0 ∧ d.size ≤ 1000000 ∧ ∀ l, l < d.size → okd d l
def post_pO (er : Int) (d : ByteArray) (ng : Bool) (xs : List Int) (i : Int) (rb : Bool) (rs : ByteArray) (ρ : List Int × Int) : Prop := ρ.1 = toL (vT d d.size)
theorem pO_step (er : Int) (d : ByteArray) (ng : Bool) (rb : Bool) (rs : ByteArray) (hd : d.size ≤ 1000000) {i : Nat} (hi : i < d.size) (hv : vT d i < 10 ^ i) (ho : ∀ l, i ≤ l → l < i + 9 → l < d.size → okd d l) : ∃ k, 0 < k ∧ k ≤ 9 ∧ i + k ≤ d.size ∧ vT d (i + k) < 10 ^ (i + k) ∧
    V.Ends Try.prog false 0 0 (lb 7 p_pO) (sh_pO er d ng (toL (vT d i)) i rb rs) (hp_pO er d ng (toL (vT d i)) i rb rs) .normal (sh_pO er d ng (toL (vT d (i + k))) ((i + k : Nat) : Int) rb rs) (hp_pO er d ng (toL (vT d (i + k))) ((i + k : Nat) : Int) rb rs) := by
  have hq : pre_iP er d ng (toL (vT d i)) i 0 1 0 rb rs := ⟨rfl, rfl, rfl, i, rfl, hi, hd, ho⟩
  have hs := (phi_iP_spec _ _ _ _ _ _ _ _ _ _ hq).2
  have hr := round_pO sg0 cond_iP phi_iP er d ng (toL (vT d i)) i rb rs
  simp only [rowOf_lim', num_toL'] at hr
  rw [cond_iP_eq _ _ _ _ _ _ _ _ _ _ hq, show okB (toL (vT d i)).length (lim (toL (vT d i))) = true from okB_enc _, oks_dec hv (by omega), dT (show (i : Int) < (d.size : Int) by omega)] at hr
  generalize phi_iP er d ng (toL (vT d i)) i 0 1 0 rb rs = ρ at *
  obtain ⟨k, n, g1, g2, g3, g4, g5, g6, g7, g8⟩ := hs
  rw [Int.toNat_natCast] at g1 g4 g8
  have h9 := p9 g3
  have u1 : inU ((10 ^ k : Nat) : Int) = true := by unfold inU; rw [Bool.and_eq_true, decide_eq_true_eq, decide_eq_true_eq]; omega
  have u2 : inU ((n : Nat) : Int) = true := by unfold inU; rw [Bool.and_eq_true, decide_eq_true_eq, decide_eq_true_eq]; omega
  rw [g7, g5, g1, u1, u2, Int.toNat_natCast, Int.toNat_natCast, ← g8] at hr
  refine ⟨k, g2, g3, g4, ?_, step_pO hr⟩
  rw [g8, Nat.pow_add]
  have h1 : (vT d i + 1) * 10 ^ k ≤ 10 ^ i * 10 ^ k := Nat.mul_le_mul_right _ hv
  rw [Nat.add_mul, Nat.one_mul] at h1
  omega
theorem pO_go (er : Int) (d : ByteArray) (ng : Bool) (rb : Bool) (rs : ByteArray) (hd : d.size ≤ 1000000) (ho : ∀ l, l < d.size → okd d l) (r : Nat) : ∀ i, d.size ≤ i + r → i ≤ d.size → vT d i < 10 ^ i → LoopTo Try.prog (lb 7 p_pO) (sh_pO er d ng (toL (vT d i)) i rb rs) (hp_pO er d ng (toL (vT d i)) i rb rs) (.exit 0) (sh_pO er d ng (toL (vT d d.size)) d.size rb rs) (hp_pO er d ng (toL (vT d d.size)) d.size rb rs) := by
  have fin : LoopTo Try.prog (lb 7 p_pO) (sh_pO er d ng (toL (vT d d.size)) d.size rb rs) (hp_pO er d ng (toL (vT d d.size)) d.size rb rs) (.exit 0) (sh_pO er d ng (toL (vT d d.size)) d.size rb rs) (hp_pO er d ng (toL (vT d d.size)) d.size rb rs) := by
    refine .last (step_pO ?_) (by intro h; cases h)
    rw [round_pO, dF (show ¬ ((d.size : Nat) : Int) < (d.size : Int) by omega)]
    rfl
  induction r with
  | zero =>
    intro i h1 h2 _
    rw [show i = d.size by omega]
    exact fin
  | succ r ih =>
    intro i h1 h2 hv
    by_cases hi : i < d.size
    · obtain ⟨k, k1, k2, k3, k4, k5⟩ := pO_step er d ng rb rs hd hi hv (fun l _ _ h => ho l h)
      exact .more k5 (ih (i + k) (by omega) k3 k4)
    · rw [show i = d.size by omega]
      exact fin
theorem loop_pO (er : Int) (d : ByteArray) (ng : Bool) (xs : List Int) (i : Int) (rb : Bool) (rs : ByteArray) (h : pre_pO er d ng xs i rb rs) : ∃ ρ : List Int × Int, LoopTo Try.prog (lb 7 p_pO) (sh_pO er d ng xs i rb rs) (hp_pO er d ng xs i rb rs) (.exit 0) (sh_pO er d ng ρ.1 ρ.2 rb rs) (hp_pO er d ng ρ.1 ρ.2 rb rs) ∧ post_pO er d ng xs i rb rs ρ := by
  obtain ⟨rfl, rfl, hd, ho⟩ := h
  have h := pO_go er d ng rb rs hd ho d.size 0 (by omega) (Nat.zero_le _) (show 0 < 1 by decide)
  rw [show toL (vT d 0) = [] from toL_zero] at h
  exact ⟨(toL (vT d d.size), (d.size : Int)), h, rfl⟩
def told_pO (κ : Int → ByteArray → Bool → List Int → Int → Bool → ByteArray → Bool) (φ : Int → ByteArray → Bool → List Int → Int → Bool → ByteArray → List Int × Int) (T : List AV) (H : Hp) : Option (Bool × Ex × List AV × Hp) :=
  match lget T 2, lget T 3, lget T 4, lget T 5, lget T 6, lget T 7, H with
  | .ptr 0 0, .val (.int .i64 er), .val (.string d), .val (.bool ng), .val (.slice none 0 0), .val (.int .i64 i), [.row (.cells [.val (.bool rb), .val (.string rs)]) 23 .live] => bif T.length == 78 then some (κ er d ng ([] : List Int) i rb rs, .exit 0, sh_pO er d ng ((φ er d ng ([] : List Int) i rb rs).1) ((φ er d ng ([] : List Int) i rb rs).2) rb rs, hp_pO er d ng ((φ er d ng ([] : List Int) i rb rs).1) ((φ er d ng ([] : List Int) i rb rs).2) rb rs) else none
  | _, _, _, _, _, _, _ => none
abbrev KT_pO : Type := Int → ByteArray → Bool → List Int → Int → Bool → ByteArray → Bool
abbrev FT_pO : Type := Int → ByteArray → Bool → List Int → Int → Bool → ByteArray → List Int × Int
def LL_pO (κ : KT_pO) (φ : FT_pO) (L : LTab) : LTab := addLn 0 7 p_pO [2, 3, 4, 5, 6, 7] (told_pO κ φ) L
def phi_pO (er : Int) (d : ByteArray) (ng : Bool) (xs : List Int) (i : Int) (rb : Bool) (rs : ByteArray) : List Int × Int := Classical.epsilon fun ρ => LoopTo Try.prog (lb 7 p_pO) (sh_pO er d ng xs i rb rs) (hp_pO er d ng xs i rb rs) (.exit 0) (sh_pO er d ng (ρ.1) (ρ.2) rb rs) (hp_pO er d ng (ρ.1) (ρ.2) rb rs) ∧ post_pO er d ng xs i rb rs ρ
theorem phi_pO_spec (er : Int) (d : ByteArray) (ng : Bool) (xs : List Int) (i : Int) (rb : Bool) (rs : ByteArray) (h : pre_pO er d ng xs i rb rs) : LoopTo Try.prog (lb 7 p_pO) (sh_pO er d ng xs i rb rs) (hp_pO er d ng xs i rb rs) (.exit 0) (sh_pO er d ng ((phi_pO er d ng xs i rb rs).1) ((phi_pO er d ng xs i rb rs).2) rb rs) (hp_pO er d ng ((phi_pO er d ng xs i rb rs).1) ((phi_pO er d ng xs i rb rs).2) rb rs) ∧ post_pO er d ng xs i rb rs (phi_pO er d ng xs i rb rs) := Classical.epsilon_spec (loop_pO er d ng xs i rb rs h)
def cond_pO (er : Int) (d : ByteArray) (ng : Bool) (xs : List Int) (i : Int) (rb : Bool) (rs : ByteArray) : Bool := @decide (pre_pO er d ng xs i rb rs) (Classical.propDecidable _)
theorem cond_pO_eq (er : Int) (d : ByteArray) (ng : Bool) (xs : List Int) (i : Int) (rb : Bool) (rs : ByteArray) (h : pre_pO er d ng xs i rb rs) : cond_pO er d ng xs i rb rs = true := @decide_eq_true _ (Classical.propDecidable _) h
theorem told_pO_ok (T : List AV) (H : Hp) (e : Ex) (T1 : List AV) (H1 : Hp) (h : told_pO cond_pO phi_pO T H = some (true, e, T1, H1)) : V.Ends Try.prog false 0 0 (.loop (lb 7 p_pO)) T H e T1 H1 := by
  unfold told_pO at h
  split at h
  · rename_i er d ng i rb rs h2 h3 h4 h5 h6 h7
    rw [Bool.cond_eq_ite] at h
    split at h
    · rename_i hlen
      rw [beq_iff_eq] at hlen
      simp only [Option.some.injEq, Prod.mk.injEq, Bool.and_eq_true, decide_eq_true_eq] at h
      obtain ⟨k1, rfl, rfl, rfl⟩ := h
      have kc := @of_decide_eq_true _ (Classical.propDecidable _) k1
      refine Ends.pre (phi_pO_spec er d ng ([] : List Int) i rb rs kc).1.ends (fun α B w D ys hr => slots_rel hlen (fun p hp y hy => ?_) hr)
      simp only [List.mem_cons, List.not_mem_nil, or_false] at hp
      rcases hp with rfl | rfl | rfl | rfl | rfl | rfl
      · rw [h2] at hy; exact hy
      · rw [h3] at hy; exact hy
      · rw [h4] at hy; exact hy
      · rw [h5] at hy; exact hy
      · rw [h6] at hy; exact nil_lst hy
      · rw [h7] at hy; exact hy
    · cases h
  · cases h
theorem LL_pO_ok {L : LTab} (h : LOk Try.prog L) : LOk Try.prog (LL_pO cond_pO phi_pO L) := h.add2n body_pO told_pO_ok
abbrev p_pX : List Bool := [false, true, false, true, true, true, true, true]
def sh_pX (er : Int) (d : ByteArray) (ng : Bool) (xs : List Int) (i : Int) (rb : Bool) (rs : ByteArray) : List AV := slots 78 [(2, .ptr 0 0), (3, .val (.int .i64 er)), (4, .val (.string d)), (5, .val (.bool ng)), (6, .lst false 47 xs.length (lim xs)), (7, .val (.int .i64 i))]
def hp_pX (er : Int) (d : ByteArray) (ng : Bool) (xs : List Int) (i : Int) (rb : Bool) (rs : ByteArray) : Hp := [.row (.cells [.val (.bool rb), .val (.string rs)]) 23 .live]
theorem body_pX : subC Try.prog 7 p_pX = some (.loop (lb 7 p_pX)) := by kernel_rfl
theorem code_pX : subC Try.prog 7 (false :: p_pX) = some (lb 7 p_pX) := by kernel_rfl
theorem round_pX (S : Sg) (κ : KT_iQ) (φ : FT_iQ) (er : Int) (d : ByteArray) (ng : Bool) (xs : List Int) (i : Int) (rb : Bool) (rs : ByteArray) : roundA Try.prog (EpB S κ φ) 7 [2, 3, 4, 5, 6, 7] (lb 7 p_pX) (false :: p_pX) (sh_pX er d ng xs i rb rs) (hp_pX er d ng xs i rb rs) =
    (bif decide (i < (↑d.size : Int)) then (bif okB xs.length (lim xs) && κ er d ng (rowOf xs.length (lim xs)) i (0 : Int) (1 : Int) (0 : Int) rb rs then some (.ret, slots 78 [(2, (.ptr 0 0)), (3, (.val (.int .i64 ((φ er d ng (rowOf xs.length (lim xs)) i (0 : Int) (1 : Int) (0 : Int) rb rs).fst)))), (4, (.val (.string d))), (5, (.val (.bool ng))), (6, (.lst false 47 ((rowOf xs.length (lim xs)).length) (lim (rowOf xs.length (lim xs))))), (7, (.val (.int .i64 ((φ er d ng (rowOf xs.length (lim xs)) i (0 : Int) (1 : Int) (0 : Int) rb rs).snd.fst))))], [(.row (.cells [(.val (.bool ((φ er d ng (rowOf xs.length (lim xs)) i (0 : Int) (1 : Int) (0 : Int) rb rs).snd.snd.snd.snd.snd.fst))), (.val (.string ((φ er d ng (rowOf xs.length (lim xs)) i (0 : Int) (1 : Int) (0 : Int) rb rs).snd.snd.snd.snd.snd.snd)))]) 23 .live)]) else none) else some ((.exit 0), slots 78 [(2, (.ptr 0 0)), (3, (.val (.int .i64 er))), (4, (.val (.string d))), (5, (.val (.bool ng))), (6, (.lst false 47 xs.length (lim xs))), (7, (.val (.int .i64 i)))], [(.row (.cells [(.val (.bool rb)), (.val (.string rs))]) 23 .live)])) := by kernel_rfl
theorem step_pX {er : Int} {d : ByteArray} {ng : Bool} {xs : List Int} {i : Int} {rb : Bool} {rs : ByteArray} {e : Ex} {T : List AV} {H : Hp} (h : roundA Try.prog (EpB sg0 cond_iQ phi_iQ) 7 [2, 3, 4, 5, 6, 7] (lb 7 p_pX) (false :: p_pX) (sh_pX er d ng xs i rb rs) (hp_pX er d ng xs i rb rs) = some (e, T, H)) : V.Ends Try.prog false 0 0 (lb 7 p_pX) (sh_pX er d ng xs i rb rs) (hp_pX er d ng xs i rb rs) e T H :=
  round_ends ((meets_none _).add eMuladd) (LL_iQ_ok LOk.none).ok mixed code_pX h
def pre_pX (er : Int) (d : ByteArray) (ng : Bool) (xs : List Int) (i : Int) (rb : Bool) (rs : ByteArray) : Prop := xs = [] ∧ i = 0 ∧ d.size ≤ 1000000 ∧ ∃ m, m < d.size ∧ (∀ l, l < m → okd d l) ∧ ¬ okd d m
def post_pX (er : Int) (d : ByteArray) (ng : Bool) (xs : List Int) (i : Int) (rb : Bool) (rs : ByteArray) (ρ : Int × List Int × Int × Bool × ByteArray) : Prop := ρ.1 = 3 ∧ ρ.2.2.2.1 = false ∧ ρ.2.2.2.2 = ByteArray.mk #[]
theorem pX_go (er : Int) (d : ByteArray) (ng : Bool) (rb : Bool) (rs : ByteArray) (hd : d.size ≤ 1000000) (m : Nat) (hm : m < d.size) (ho : ∀ l, l < m → okd d l) (hb : ¬ okd d m) (r : Nat) : ∀ i, m ≤ i + r → i ≤ m → vT d i < 10 ^ i → ∃ ρ : Int × List Int × Int × Bool × ByteArray, LoopTo Try.prog (lb 7 p_pO) (sh_pO er d ng (toL (vT d i)) i rb rs) (hp_pO er d ng (toL (vT d i)) i rb rs) .ret (sh_pO ρ.1 d ng ρ.2.1 ρ.2.2.1 ρ.2.2.2.1 ρ.2.2.2.2) (hp_pO ρ.1 d ng ρ.2.1 ρ.2.2.1 ρ.2.2.2.1 ρ.2.2.2.2) ∧ ρ.1 = 3 ∧ ρ.2.2.2.1 = false ∧ ρ.2.2.2.2 = ByteArray.mk #[] := by
  have fin : ∀ i : Nat, i ≤ m → m < i + 9 → vT d i < 10 ^ i → ∃ ρ : Int × List Int × Int × Bool × ByteArray, LoopTo Try.prog (lb 7 p_pO) (sh_pO er d ng (toL (vT d i)) i rb rs) (hp_pO er d ng (toL (vT d i)) i rb rs) .ret (sh_pO ρ.1 d ng ρ.2.1 ρ.2.2.1 ρ.2.2.2.1 ρ.2.2.2.2) (hp_pO ρ.1 d ng ρ.2.1 ρ.2.2.1 ρ.2.2.2.1 ρ.2.2.2.2) ∧ ρ.1 = 3 ∧ ρ.2.2.2.1 = false ∧ ρ.2.2.2.2 = ByteArray.mk #[] := by
    intro i h1 h2 hv
    have hq : pre_iQ er d ng (toL (vT d i)) i 0 1 0 rb rs := ⟨rfl, rfl, rfl, i, m - i, rfl, by omega, by omega, hd, fun l h3 h4 => ho l (by omega), by rw [show i + (m - i) = m by omega]; exact hb⟩
    have hs := (phi_iQ_spec _ _ _ _ _ _ _ _ _ _ hq).2
    have hr := round_pX sg0 cond_iQ phi_iQ er d ng (toL (vT d i)) i rb rs
    simp only [rowOf_lim'] at hr
    rw [cond_iQ_eq _ _ _ _ _ _ _ _ _ _ hq, show okB (toL (vT d i)).length (lim (toL (vT d i))) = true from okB_enc _, dT (show (i : Int) < (d.size : Int) by omega)] at hr
    generalize phi_iQ er d ng (toL (vT d i)) i 0 1 0 rb rs = ρ at *
    exact ⟨(ρ.1, toL (vT d i), ρ.2.1, ρ.2.2.2.2.2.1, ρ.2.2.2.2.2.2), .last (step_pX hr) (by intro h; cases h), hs.1, hs.2.1, hs.2.2⟩
  induction r with
  | zero =>
    intro i h1 h2 hv
    exact fin i h2 (by omega) hv
  | succ r ih =>
    intro i h1 h2 hv
    by_cases hi : m < i + 9
    · exact fin i h2 hi hv
    · obtain ⟨k, k1, k2, k3, k4, k5⟩ := pO_step er d ng rb rs hd (show i < d.size by omega) hv (fun l h3 h4 _ => ho l (by omega))
      obtain ⟨ρ, g1, g2⟩ := ih (i + k) (by omega) (by omega) k4
      exact ⟨ρ, .more k5 g1, g2⟩
theorem loop_pX (er : Int) (d : ByteArray) (ng : Bool) (xs : List Int) (i : Int) (rb : Bool) (rs : ByteArray) (h : pre_pX er d ng xs i rb rs) : ∃ ρ : Int × List Int × Int × Bool × ByteArray, LoopTo Try.prog (lb 7 p_pX) (sh_pX er d ng xs i rb rs) (hp_pX er d ng xs i rb rs) .ret (sh_pX ρ.1 d ng ρ.2.1 ρ.2.2.1 ρ.2.2.2.1 ρ.2.2.2.2) (hp_pX ρ.1 d ng ρ.2.1 ρ.2.2.1 ρ.2.2.2.1 ρ.2.2.2.2) ∧ post_pX er d ng xs i rb rs ρ := by
  obtain ⟨rfl, rfl, hd, m, hm, ho, hb⟩ := h
  have h := pX_go er d ng rb rs hd m hm ho hb m 0 (by omega) (Nat.zero_le _) (show 0 < 1 by decide)
  rw [show toL (vT d 0) = [] from toL_zero] at h
  exact h
def told_pX (κ : Int → ByteArray → Bool → List Int → Int → Bool → ByteArray → Bool) (φ : Int → ByteArray → Bool → List Int → Int → Bool → ByteArray → Int × List Int × Int × Bool × ByteArray) (T : List AV) (H : Hp) : Option (Bool × Ex × List AV × Hp) :=
  match lget T 2, lget T 3, lget T 4, lget T 5, lget T 6, lget T 7, H with
  | .ptr 0 0, .val (.int .i64 er), .val (.string d), .val (.bool ng), .val (.slice none 0 0), .val (.int .i64 i), [.row (.cells [.val (.bool rb), .val (.string rs)]) 23 .live] => bif T.length == 78 then some (κ er d ng ([] : List Int) i rb rs, .ret, sh_pX ((φ er d ng ([] : List Int) i rb rs).1) d ng ((φ er d ng ([] : List Int) i rb rs).2.1) ((φ er d ng ([] : List Int) i rb rs).2.2.1) ((φ er d ng ([] : List Int) i rb rs).2.2.2.1) ((φ er d ng ([] : List Int) i rb rs).2.2.2.2), hp_pX ((φ er d ng ([] : List Int) i rb rs).1) d ng ((φ er d ng ([] : List Int) i rb rs).2.1) ((φ er d ng ([] : List Int) i rb rs).2.2.1) ((φ er d ng ([] : List Int) i rb rs).2.2.2.1) ((φ er d ng ([] : List Int) i rb rs).2.2.2.2)) else none
  | _, _, _, _, _, _, _ => none
abbrev KT_pX : Type := Int → ByteArray → Bool → List Int → Int → Bool → ByteArray → Bool
abbrev FT_pX : Type := Int → ByteArray → Bool → List Int → Int → Bool → ByteArray → Int × List Int × Int × Bool × ByteArray
def LL_pX (κ : KT_pX) (φ : FT_pX) (L : LTab) : LTab := addLn 0 7 p_pX [2, 3, 4, 5, 6, 7] (told_pX κ φ) L
def phi_pX (er : Int) (d : ByteArray) (ng : Bool) (xs : List Int) (i : Int) (rb : Bool) (rs : ByteArray) : Int × List Int × Int × Bool × ByteArray := Classical.epsilon fun ρ => LoopTo Try.prog (lb 7 p_pX) (sh_pX er d ng xs i rb rs) (hp_pX er d ng xs i rb rs) (.ret) (sh_pX (ρ.1) d ng (ρ.2.1) (ρ.2.2.1) (ρ.2.2.2.1) (ρ.2.2.2.2)) (hp_pX (ρ.1) d ng (ρ.2.1) (ρ.2.2.1) (ρ.2.2.2.1) (ρ.2.2.2.2)) ∧ post_pX er d ng xs i rb rs ρ
theorem phi_pX_spec (er : Int) (d : ByteArray) (ng : Bool) (xs : List Int) (i : Int) (rb : Bool) (rs : ByteArray) (h : pre_pX er d ng xs i rb rs) : LoopTo Try.prog (lb 7 p_pX) (sh_pX er d ng xs i rb rs) (hp_pX er d ng xs i rb rs) (.ret) (sh_pX ((phi_pX er d ng xs i rb rs).1) d ng ((phi_pX er d ng xs i rb rs).2.1) ((phi_pX er d ng xs i rb rs).2.2.1) ((phi_pX er d ng xs i rb rs).2.2.2.1) ((phi_pX er d ng xs i rb rs).2.2.2.2)) (hp_pX ((phi_pX er d ng xs i rb rs).1) d ng ((phi_pX er d ng xs i rb rs).2.1) ((phi_pX er d ng xs i rb rs).2.2.1) ((phi_pX er d ng xs i rb rs).2.2.2.1) ((phi_pX er d ng xs i rb rs).2.2.2.2)) ∧ post_pX er d ng xs i rb rs (phi_pX er d ng xs i rb rs) := Classical.epsilon_spec (loop_pX er d ng xs i rb rs h)
def cond_pX (er : Int) (d : ByteArray) (ng : Bool) (xs : List Int) (i : Int) (rb : Bool) (rs : ByteArray) : Bool := @decide (pre_pX er d ng xs i rb rs) (Classical.propDecidable _)
theorem cond_pX_eq (er : Int) (d : ByteArray) (ng : Bool) (xs : List Int) (i : Int) (rb : Bool) (rs : ByteArray) (h : pre_pX er d ng xs i rb rs) : cond_pX er d ng xs i rb rs = true := @decide_eq_true _ (Classical.propDecidable _) h
theorem told_pX_ok (T : List AV) (H : Hp) (e : Ex) (T1 : List AV) (H1 : Hp) (h : told_pX cond_pX phi_pX T H = some (true, e, T1, H1)) : V.Ends Try.prog false 0 0 (.loop (lb 7 p_pX)) T H e T1 H1 := by
  unfold told_pX at h
  split at h
  · rename_i er d ng i rb rs h2 h3 h4 h5 h6 h7
    rw [Bool.cond_eq_ite] at h
    split at h
    · rename_i hlen
      rw [beq_iff_eq] at hlen
      simp only [Option.some.injEq, Prod.mk.injEq, Bool.and_eq_true, decide_eq_true_eq] at h
      obtain ⟨k1, rfl, rfl, rfl⟩ := h
      have kc := @of_decide_eq_true _ (Classical.propDecidable _) k1
      refine Ends.pre (phi_pX_spec er d ng ([] : List Int) i rb rs kc).1.ends (fun α B w D ys hr => slots_rel hlen (fun p hp y hy => ?_) hr)
      simp only [List.mem_cons, List.not_mem_nil, or_false] at hp
      rcases hp with rfl | rfl | rfl | rfl | rfl | rfl
      · rw [h2] at hy; exact hy
      · rw [h3] at hy; exact hy
      · rw [h4] at hy; exact hy
      · rw [h5] at hy; exact hy
      · rw [h6] at hy; exact nil_lst hy
      · rw [h7] at hy; exact hy
    · cases h
  · cases h
theorem LL_pX_ok {L : LTab} (h : LOk Try.prog L) : LOk Try.prog (LL_pX cond_pX phi_pX L) := h.add2n body_pX told_pX_ok
end
end Go.Proofs.Ytndpfegbbpoopaa.L
