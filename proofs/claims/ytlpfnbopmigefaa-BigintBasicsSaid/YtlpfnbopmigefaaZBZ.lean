/- Little laws that the laws' proofs share. -/
import Derived.Test.YtlpfnbopmigefaaZL
import Derived.Test.YtlpfnbopmigefaaZA3
set_option linter.unusedVariables false
set_option linter.unusedSimpArgs false

/- Little laws that the laws' proofs share. -/
set_option linter.unusedVariables false
namespace Go.Proofs.Ytlpfnbopmigefaa.L
open Go Go.V Go.RowKit Go.Proofs.Ytlpfnbopmigefaa.Sp
open Go.Proofs (Try.prog)
noncomputable section
theorem chk_ms (z : Int) : sg0.chk (sg0.ng z) (sg0.ms z) = 0 := by
  show L.chk (enc z).1 (enc z).2 = 0
  unfold L.chk
  have e1 : magOf (vS (enc z).2) = (enc z).2 := by
    show magOf (vS (magOf z.natAbs)) = magOf z.natAbs
    rw [vS_magOf]
  rw [if_pos e1, if_neg]
  rintro ⟨h1, h2⟩
  unfold enc at h1
  simp only [decide_eq_true_eq] at h1
  have h3 := (toList_nil _).1 h2
  have h3 : (magOf z.natAbs).data.toList = [] := h3
  rw [magOf_data, toB_nil_iff] at h3
  omega
theorem strEq_self (s : ByteArray) : strEq s s = true := by unfold strEq; exact beq_self_eq_true _
theorem eqI {x y : Int} (h : x = y) : (sg0.ng x == sg0.ng y && (strEq (sg0.ms x) (sg0.ms y) && true)) = true := by
  rw [h, beq_self_eq_true, strEq_self]; rfl
theorem ms_zero : sg0.ms 0 = ByteArray.mk #[] := by
  show magOf 0 = _
  unfold magOf
  rw [toB_zero]
theorem eqZ {x : Int} (h : x = 0) : (sg0.ng x == false && (strEq (sg0.ms x) (ByteArray.mk #[]) && true)) = true := by
  rw [h, ms_zero, strEq_self]; rfl
theorem val_nil : sg0.val false (ByteArray.mk #[]) = 0 := rfl
theorem ok_nil : sg0.ok (ByteArray.mk #[]) = true := by
  exact decide_eq_true (show (ByteArray.mk #[]).size ≤ 8796093022208 by decide)
theorem ok_small {s : ByteArray} (h : s.size ≤ 60) : sg0.ok s = true := decide_eq_true (by omega)
theorem cmz_self {x y : Int} (h : x = y) : sg0.cmz x y = 0 := by
  show cmpZ x y = 0
  unfold cmpZ
  rw [if_neg (by omega), if_neg (by omega)]
theorem arg_int (B : Nat → Prop) (w : World) (b : Bool) (s : ByteArray) : (AV.agg [.val (.bool b), .val (.string s)]).Rel Try.prog NoA B w NoD (.agg #[.bool b, .string s]) := ⟨_, rfl, _, _, rfl, rfl, _, _, rfl, rfl, rfl⟩
/-- What the executor gives, as a walk: for a law. -/
theorem law_walk {E : Env} {g : FuncId} {args : List AV} {xs : Array Value} (hC : Meets Try.prog E.C) (hL : LoopsOk Try.prog E) (hok : okFn Try.prog g = true) {u d : Nat} (h : callA Try.prog E u d g args = some (.val (.bool true))) (W : World) (ha : RelL Try.prog NoA (fun _ => False) W args NoD xs.toList) :
    Calls Try.prog g xs W fun e w' => e = .returned (.bool true) ∧ Below W.heap.size W w' := by
  refine (callA_sound hC hL mixed hok h (fun _ => False) W xs (fun _ h => h.elim) ha).mono ?_
  rintro e w' ⟨y, rfl, h2, h3⟩
  have h3 : y = .bool true := h3
  exact ⟨by rw [h3], h2⟩
end
end Go.Proofs.Ytlpfnbopmigefaa.L

/- Of the reference: trim, Canonical, small, told. -/
set_option linter.unusedVariables false
set_option linter.unusedSimpArgs false
namespace Go.Proofs.Ytlpfnbopmigefaa.L
open Go Go.V Go.RowKit Go.Proofs.Ytlpfnbopmigefaa.Sp Go.Proofs.Ytlpfnbopmigefaa.F Go.Proofs.YtlpfnbopmigefaaW.PrintWords
open Go.Proofs (Try.prog)
noncomputable section
/-! ### trim -/
abbrev p_rtrim : List Bool := [false, false, true]
def sh_rtrim (s : ByteArray) : List AV := slots 14 [(0, .val (.string s))]
def hp_rtrim (s : ByteArray) : Hp := []
theorem body_rtrim : subC Try.prog 65 p_rtrim = some (.loop (lb 65 p_rtrim)) := by kernel_rfl
theorem code_rtrim : subC Try.prog 65 (false :: p_rtrim) = some (lb 65 p_rtrim) := by kernel_rfl
theorem round_rtrim  (s : ByteArray) : roundA Try.prog EL0 65 [0] (lb 65 p_rtrim) (false :: p_rtrim) (sh_rtrim s) (hp_rtrim s) =
    (bif decide ((0 : Int) < (↑s.size : Int)) then (bif decide ((0 : Int) < (↑s.size : Int)) then (bif decide (byteAt s (0 : Nat) = (0 : Int)) then (bif decide ((1 : Int) ≤ (↑s.size : Int)) then some (.normal, slots 14 [(0, (.val (.string (strSub s (1 : Nat) s.size))))], []) else none) else some ((.exit 0), slots 14 [(0, (.val (.string s)))], [])) else none) else some ((.exit 0), slots 14 [(0, (.val (.string s)))], [])) := by kernel_rfl
theorem step_rtrim {s : ByteArray} {e : Ex} {T : List AV} {H : Hp} (h : roundA Try.prog EL0 65 [0] (lb 65 p_rtrim) (false :: p_rtrim) (sh_rtrim s) (hp_rtrim s) = some (e, T, H)) : V.Ends Try.prog false 0 0 (lb 65 p_rtrim) (sh_rtrim s) (hp_rtrim s) e T H :=
  round_ends (meets_none _) loops_none mixed code_rtrim h
def pre_rtrim (s : ByteArray) : Prop := True
def post_rtrim (s : ByteArray) (r : ByteArray) : Prop := r = magOf (vS s)
theorem byteAt_cons {s : ByteArray} {c : UInt8} {l : List UInt8} (h : s.data.toList = c :: l) : byteAt s 0 = (c.toNat : Int) := by unfold byteAt; rw [h]; rfl
theorem strSub_cons {s : ByteArray} {c : UInt8} {l : List UInt8} (h : s.data.toList = c :: l) : (strSub s 1 s.size).data.toList = l := by
  have hs : s.size = l.length + 1 := by
    have : s.size = s.data.toList.length := by rw [Array.length_toList]; rfl
    rw [this, h]; rfl
  show ((s.data.toList.drop 1).take (s.size - 1)) = l
  rw [h, hs]
  simp
theorem size_list (s : ByteArray) : s.size = s.data.toList.length := by rw [Array.length_toList]; rfl
theorem rtrim_go : ∀ (n : Nat) (s : ByteArray), s.size = n → LoopTo Try.prog (lb 65 p_rtrim) (sh_rtrim s) (hp_rtrim s) (.exit 0) (sh_rtrim (magOf (vS s))) (hp_rtrim (magOf (vS s)))
  | 0, s, hn => by
    have hd : s.data.toList = [] := List.length_eq_zero_iff.1 (by rw [← size_list]; exact hn)
    have e : magOf (vS s) = s := magOf_of_lead s (by rw [hd]; exact True.intro)
    rw [e]
    refine .last (step_rtrim ?_) (by intro h; cases h)
    rw [round_rtrim, dF (show ¬ (0 : Int) < s.size by omega)]
    rfl
  | n + 1, s, hn => by
    obtain ⟨c, l, hd⟩ : ∃ c l, s.data.toList = c :: l := by
      cases h : s.data.toList with
      | nil => rw [size_list, h] at hn; simp at hn
      | cons c l => exact ⟨c, l, rfl⟩
    have hr := round_rtrim s
    have hb := byteAt_cons hd
    rw [dT (show (0 : Int) < s.size by omega), hb] at hr
    by_cases hc : c = 0
    · have hv : vS s = vS (strSub s 1 s.size) := by
        unfold vS
        rw [strSub_cons hd, hd, vB_cons, hc]
        simp
      rw [hv]
      have hlen : (strSub s 1 s.size).size = n := by
        rw [size_list, strSub_cons hd]
        rw [size_list, hd] at hn
        simpa using hn
      refine .more (step_rtrim ?_) (rtrim_go n _ hlen)
      rw [hr, hc, dT (show (((0 : UInt8).toNat : Nat) : Int) = 0 from rfl), dT (show (1 : Int) ≤ s.size by omega)]
      rfl
    · have e : magOf (vS s) = s := magOf_of_lead s (by rw [hd]; exact hc)
      rw [e]
      refine .last (step_rtrim ?_) (by intro h; cases h)
      have hc2 : ¬ ((c.toNat : Nat) : Int) = 0 := fun h => hc (UInt8.toNat_inj.1 (by simpa using h))
      rw [hr, dF hc2]
      rfl
theorem loop_rtrim (s : ByteArray) (h : pre_rtrim s) : ∃ r : ByteArray, LoopTo Try.prog (lb 65 p_rtrim) (sh_rtrim s) (hp_rtrim s) (.exit 0) (sh_rtrim r) (hp_rtrim r) ∧ post_rtrim s r := ⟨_, rtrim_go s.size s rfl, rfl⟩
def told_rtrim (κ : ByteArray → Bool) (φ : ByteArray → ByteArray) (T : List AV) (H : Hp) : Option (Bool × Ex × List AV × Hp) :=
  match lget T 0, H with
  | .val (.string s), [] => bif T.length == 14 then some (κ s, .exit 0, sh_rtrim ((φ s)), hp_rtrim ((φ s))) else none
  | _, _ => none
abbrev KT_rtrim : Type := ByteArray → Bool
abbrev FT_rtrim : Type := ByteArray → ByteArray
def LL_rtrim (κ : KT_rtrim) (φ : FT_rtrim) (L : LTab) : LTab := addLn 0 65 p_rtrim [0] (told_rtrim κ φ) L
def phi_rtrim (s : ByteArray) : ByteArray := Classical.epsilon fun ρ => LoopTo Try.prog (lb 65 p_rtrim) (sh_rtrim s) (hp_rtrim s) (.exit 0) (sh_rtrim (ρ)) (hp_rtrim (ρ)) ∧ post_rtrim s ρ
theorem phi_rtrim_spec (s : ByteArray) (h : pre_rtrim s) : LoopTo Try.prog (lb 65 p_rtrim) (sh_rtrim s) (hp_rtrim s) (.exit 0) (sh_rtrim ((phi_rtrim s))) (hp_rtrim ((phi_rtrim s))) ∧ post_rtrim s (phi_rtrim s) := Classical.epsilon_spec (loop_rtrim s h)
def cond_rtrim (s : ByteArray) : Bool := @decide (pre_rtrim s) (Classical.propDecidable _)
theorem cond_rtrim_eq (s : ByteArray) (h : pre_rtrim s) : cond_rtrim s = true := @decide_eq_true _ (Classical.propDecidable _) h
theorem told_rtrim_ok (T : List AV) (H : Hp) (e : Ex) (T1 : List AV) (H1 : Hp) (h : told_rtrim cond_rtrim phi_rtrim T H = some (true, e, T1, H1)) : V.Ends Try.prog false 0 0 (.loop (lb 65 p_rtrim)) T H e T1 H1 := by
  unfold told_rtrim at h
  split at h
  · rename_i s h0
    rw [Bool.cond_eq_ite] at h
    split at h
    · rename_i hlen
      rw [beq_iff_eq] at hlen
      simp only [Option.some.injEq, Prod.mk.injEq, Bool.and_eq_true, decide_eq_true_eq] at h
      obtain ⟨k1, rfl, rfl, rfl⟩ := h
      have kc := @of_decide_eq_true _ (Classical.propDecidable _) k1
      refine Ends.pre (phi_rtrim_spec s kc).1.ends (fun α B w D ys hr => slots_rel hlen (fun p hp y hy => ?_) hr)
      simp only [List.mem_cons, List.not_mem_nil, or_false] at hp
      subst hp
      · rw [h0] at hy; exact hy
    · cases h
  · cases h
theorem LL_rtrim_ok {L : LTab} (h : LOk Try.prog L) : LOk Try.prog (LL_rtrim cond_rtrim phi_rtrim L) := h.add2n body_rtrim told_rtrim_ok
def ERt (κ : KT_rtrim) (φ : FT_rtrim) : Env := ⟨noC, Kall, LL_rtrim κ φ noL⟩
theorem rtrim_call (κ : KT_rtrim) (φ : FT_rtrim) (s : ByteArray) : callA Try.prog (ERt κ φ) 10 10 65 [.val (.string s)] =
    (bif κ s then some (.val (.string (φ s))) else none) := by kernel_rfl
theorem eRTrim : Entry Try.prog 65 (tStrip sg0) := by
  refine entry_of (E := ERt cond_rtrim phi_rtrim) (u := 10) (d := 10) (meets_none _) (LL_rtrim_ok LOk.none).ok mixed (by kernel_rfl) (fun args r h => ?_)
  unfold tStrip at h
  split at h
  · rename_i s
    cases h
    obtain ⟨_, h2⟩ := phi_rtrim_spec s True.intro
    have h2 : phi_rtrim s = magOf (vS s) := h2
    rw [rtrim_call, cond_rtrim_eq _ True.intro, h2]
    rfl
  · cases h
/-! ### Canonical -/
def ECa (S : Sg) : Env := ⟨addC 65 (tStrip S) noC, Kall, noL⟩
theorem canon_call (S : Sg) (b : Bool) (s : ByteArray) : callA Try.prog (ECa S) 10 10 52 [.agg [.val (.bool b), .val (.string s)]] =
    (bif decide ((0 : Int) < (↑s.size : Int)) then (bif decide ((0 : Int) < (↑s.size : Int)) then (bif !decide (byteAt s (0 : Nat) = (0 : Int)) then some (.agg [(.val (.bool b)), (.val (.string s))]) else (bif b then some (.agg [(.val (.bool (!strEq (S.mg (S.vs s)) (ByteArray.mk #[])))), (.val (.string (S.mg (S.vs s))))]) else some (.agg [(.val (.bool false)), (.val (.string (S.mg (S.vs s))))]))) else none) else (bif b then some (.agg [(.val (.bool (!strEq (S.mg (S.vs s)) (ByteArray.mk #[])))), (.val (.string (S.mg (S.vs s))))]) else some (.agg [(.val (.bool false)), (.val (.string (S.mg (S.vs s))))]))) := by kernel_rfl
def tCanon (S : Sg) (args : List AV) : Option (Bool × AV) := match args with | [.agg [.val (.bool b), .val (.string s)]] => some (true, S.int (S.val b s)) | _ => none
theorem ng_eq (z : Int) : sg0.ng z = decide (z < 0) := by
  rw [Bool.eq_iff_iff]
  show (enc z).1 = true ↔ _
  unfold enc
  simp only [decide_eq_true_eq]
theorem agg_val (b : Bool) (s : ByteArray) (hl : Lead s.data.toList) (hb : b = true → s.data.toList ≠ []) : AV.agg [.val (.bool b), .val (.string s)] = sg0.int (sg0.val b s) := by
  have e1 : sg0.ms (sg0.val b s) = s := by
    show magOf (sg0.val b s).natAbs = s
    rw [← vs_val]
    exact magOf_of_lead s hl
  have e2 : sg0.ng (sg0.val b s) = b := by
    rw [ng_eq]
    have hv : sg0.val b s = if b = true then -(vS s : Int) else (vS s : Int) := rfl
    cases b with
    | true =>
      have hp : 0 < vS s := vB_pos_of_lead hl (hb rfl)
      rw [hv, if_pos rfl, decide_eq_true_eq]
      omega
    | false =>
      rw [hv, if_neg (by decide), decide_eq_false_iff_not]
      omega
  unfold Sg.int
  rw [e1, e2]
theorem eCanon : Entry Try.prog 52 (tCanon sg0) := by
  refine entry_of (E := ECa sg0) (u := 10) (d := 10) ((meets_none _).add eRTrim) loops_none mixed (by kernel_rfl) (fun args r h => ?_)
  unfold tCanon at h
  split at h
  · rename_i b s
    cases h
    rw [canon_call]
    have hm : strEq (sg0.mg (sg0.vs s)) (ByteArray.mk #[]) = decide (sg0.vs s = 0) := magOf_nil (vS s)
    have hend : ∀ b : Bool, AV.agg [.val (.bool (bif b then !decide (sg0.vs s = 0) else false)), .val (.string (sg0.mg (sg0.vs s)))] = sg0.int (sg0.val b s) := by
      intro b
      have h1 : AV.agg [.val (.bool (sg0.ng (sg0.val b s))), .val (.string (sg0.ms (sg0.val b s)))] = sg0.int (sg0.val b s) := rfl
      rw [← h1]
      have e1 : sg0.ms (sg0.val b s) = sg0.mg (sg0.vs s) := by show magOf (sg0.val b s).natAbs = _; rw [← vs_val]; rfl
      have e2 : sg0.ng (sg0.val b s) = (bif b then !decide (sg0.vs s = 0) else false) := by
        have hv : sg0.val b s = if b = true then -(sg0.vs s : Int) else (sg0.vs s : Int) := rfl
        rw [ng_eq, hv]
        cases b
        · rw [if_neg (by decide)]
          exact decide_eq_false (by omega)
        · rw [if_pos rfl]
          by_cases h : sg0.vs s = 0
          · rw [decide_eq_true h]; exact decide_eq_false (by omega)
          · rw [decide_eq_false h]; exact decide_eq_true (by omega)
      rw [e1, e2]
    by_cases h0 : (0 : Int) < s.size
    · obtain ⟨c, l, hd⟩ : ∃ c l, s.data.toList = c :: l := by
        cases h : s.data.toList with
        | nil => rw [size_list, h] at h0; simp at h0
        | cons c l => exact ⟨c, l, rfl⟩
      have hb := byteAt_cons hd
      rw [dT h0]
      by_cases hc : c = 0
      · rw [hb, hc, dT (show (((0 : UInt8).toNat : Nat) : Int) = 0 from rfl)]
        cases b
        · exact congrArg some (hend false)
        · have := hend true
          rw [← hm] at this
          exact congrArg some this
      · have hc2 : ¬ ((c.toNat : Nat) : Int) = 0 := fun h => hc (UInt8.toNat_inj.1 (by simpa using h))
        rw [hb, dF hc2]
        exact congrArg some (agg_val b s (by rw [hd]; exact hc) (fun _ => by rw [hd]; simp))
    · rw [dF h0]
      cases b
      · exact congrArg some (hend false)
      · have := hend true
        rw [← hm] at this
        exact congrArg some this
  · cases h
end
end Go.Proofs.Ytlpfnbopmigefaa.L

/- Of the reference: small, value, mag, Of, Neg, Check, told. -/
set_option linter.unusedVariables false
set_option linter.unusedSimpArgs false
namespace Go.Proofs.Ytlpfnbopmigefaa.L
open Go Go.V Go.RowKit Go.Proofs.Ytlpfnbopmigefaa.Sp Go.Proofs.Ytlpfnbopmigefaa.F Go.Proofs.YtlpfnbopmigefaaW.PrintWords
open Go.Proofs (Try.prog)
noncomputable section
/-! ### small -/
abbrev p_rsmall : List Bool := [false, true, false, true, true]
def sh_rsmall (s : ByteArray) (v : Int) (i : Int) : List AV := slots 19 [(0, .val (.string s)), (3, .val (.int .i64 v)), (4, .val (.int .i64 i))]
def hp_rsmall (s : ByteArray) (v : Int) (i : Int) : Hp := []
theorem body_rsmall : subC Try.prog 60 p_rsmall = some (.loop (lb 60 p_rsmall)) := by kernel_rfl
theorem code_rsmall : subC Try.prog 60 (false :: p_rsmall) = some (lb 60 p_rsmall) := by kernel_rfl
theorem round_rsmall  (s : ByteArray) (v : Int) (i : Int) : roundA Try.prog EL0 60 [0, 3, 4] (lb 60 p_rsmall) (false :: p_rsmall) (sh_rsmall s v i) (hp_rsmall s v i) =
    (bif decide (i < (↑s.size : Int)) then (bif inR IntKind.i64 (v * (256 : Int)) then (bif decide ((0 : Int) ≤ i) && decide (i < (↑s.size : Int)) then (bif inR IntKind.i64 (byteAt s i.toNat) then (bif inR IntKind.i64 (i + (1 : Int)) then some (.normal, slots 19 [(0, (.val (.string s))), (3, (.val (.int .i64 (bitI BinOp.or IntKind.i64 (v * (256 : Int)) (byteAt s i.toNat))))), (4, (.val (.int .i64 (i + (1 : Int)))))], []) else none) else none) else none) else none) else some ((.exit 0), slots 19 [(0, (.val (.string s))), (3, (.val (.int .i64 v))), (4, (.val (.int .i64 i)))], [])) := by kernel_rfl
theorem step_rsmall {s : ByteArray} {v : Int} {i : Int} {e : Ex} {T : List AV} {H : Hp} (h : roundA Try.prog EL0 60 [0, 3, 4] (lb 60 p_rsmall) (false :: p_rsmall) (sh_rsmall s v i) (hp_rsmall s v i) = some (e, T, H)) : V.Ends Try.prog false 0 0 (lb 60 p_rsmall) (sh_rsmall s v i) (hp_rsmall s v i) e T H :=
  round_ends (meets_none _) loops_none mixed code_rsmall h
def pre_rsmall (s : ByteArray) (v i : Int) : Prop := s.size ≤ 8 ∧ vS s < 9223372036854775808 ∧ v = 0 ∧ i = 0
def post_rsmall (s : ByteArray) (v i : Int) (r : Int × Int) : Prop := r.1 = (vS s : Nat)
theorem or_i64b (v b : Nat) (hv : v * 256 + b < 9223372036854775808) (hb : b < 256) : bitI .or .i64 ((v : Int) * 256) (b : Int) = ((v * 256 + b : Nat) : Int) := by
  have e3 : Go.bits .or .i64 ((v * 256 : Nat) : Int) ((b : Nat) : Int) = ((v * 256 + b : Nat) : Int) := by
    have := bits_join .i64 63 (by decide) (fun n h1 h2 => by rw [IntKind.wrap_i64]; omega) 8 ((v * 256 : Nat) : Int) ((b : Nat) : Int) (by omega) (by omega) (by omega) (by omega) (by omega) (by omega)
    rw [this]; omega
  rw [Int.natCast_mul] at e3
  exact e3
theorem vB_take_le (l : List UInt8) (i : Nat) : vB (l.take i) ≤ vB l := by
  have := vB_append (l.take i) (l.drop i)
  rw [List.take_append_drop] at this
  rw [this]
  have h := Nat.le_mul_of_pos_right (vB (l.take i)) (Nat.pow_pos (n := (l.drop i).length) (by decide : 0 < 256))
  omega
theorem rsmall_go (s : ByteArray) (hs : s.size ≤ 8) (hv : vS s < 9223372036854775808) (d : Nat) : ∀ i : Nat, i + d = s.size → ∃ r : Int × Int, LoopTo Try.prog (lb 60 p_rsmall) (sh_rsmall s (vB (s.data.toList.take i) : Nat) i) (hp_rsmall s (vB (s.data.toList.take i) : Nat) i) (.exit 0) (sh_rsmall s r.1 r.2) (hp_rsmall s r.1 r.2) ∧ r.1 = (vS s : Nat) := by
  induction d with
  | zero =>
    intro i hi
    have hi' : i = s.size := by omega
    subst hi'
    have e : s.data.toList.take s.size = s.data.toList := List.take_of_length_le (by rw [Array.length_toList]; exact Nat.le_refl _)
    refine ⟨((vB (s.data.toList.take s.size) : Nat), (s.size : Int)), .last (step_rsmall ?_) (by intro h; cases h), by rw [e]; rfl⟩
    rw [round_rsmall, dF (show ¬ ((s.size : Int) < s.size) by omega)]
    rfl
  | succ d ih =>
    intro i hi
    obtain ⟨r, h1, h2⟩ := ih (i + 1) (by omega)
    refine ⟨r, .more (step_rsmall ?_) h1, h2⟩
    rw [round_rsmall]
    have hb := byteAt_lt s i
    have hsucc := vB_take_succ s i (by omega)
    have hle := vB_take_le s.data.toList (i + 1)
    have hle : vB (s.data.toList.take (i + 1)) ≤ vS s := hle
    obtain ⟨c, hc⟩ : ∃ c : Nat, byteAt s i = c := ⟨(byteAt s i).toNat, by omega⟩
    rw [hc] at hb hsucc
    have e : vB (s.data.toList.take (i + 1)) = vB (s.data.toList.take i) * 256 + c := by omega
    rw [Int.toNat_natCast, hc, or_i64b _ _ (by omega) (by omega), i64T (show -9223372036854775808 ≤ ((vB (s.data.toList.take i) : Nat) : Int) * 256 ∧ ((vB (s.data.toList.take i) : Nat) : Int) * 256 ≤ 9223372036854775807 by omega), i64T (show -9223372036854775808 ≤ (c : Int) ∧ (c : Int) ≤ 9223372036854775807 by omega), i64T (show -9223372036854775808 ≤ (i : Int) + 1 ∧ (i : Int) + 1 ≤ 9223372036854775807 by omega), dT (show (i : Int) < s.size by omega), dT (show (0 : Int) ≤ (i : Int) by omega)]
    rw [e]
    rfl
theorem loop_rsmall (s : ByteArray) (v i : Int) (h : pre_rsmall s v i) : ∃ r : Int × Int, LoopTo Try.prog (lb 60 p_rsmall) (sh_rsmall s v i) (hp_rsmall s v i) (.exit 0) (sh_rsmall s r.1 r.2) (hp_rsmall s r.1 r.2) ∧ post_rsmall s v i r := by
  obtain ⟨h1, h2, rfl, rfl⟩ := h
  exact rsmall_go s h1 h2 s.size 0 (by omega)
def told_rsmall (κ : ByteArray → Int → Int → Bool) (φ : ByteArray → Int → Int → Int × Int) (T : List AV) (H : Hp) : Option (Bool × Ex × List AV × Hp) :=
  match lget T 0, lget T 3, lget T 4, H with
  | .val (.string s), .val (.int .i64 v), .val (.int .i64 i), [] => bif T.length == 19 then some (κ s v i, .exit 0, sh_rsmall s ((φ s v i).1) ((φ s v i).2), hp_rsmall s ((φ s v i).1) ((φ s v i).2)) else none
  | _, _, _, _ => none
abbrev KT_rsmall : Type := ByteArray → Int → Int → Bool
abbrev FT_rsmall : Type := ByteArray → Int → Int → Int × Int
def LL_rsmall (κ : KT_rsmall) (φ : FT_rsmall) (L : LTab) : LTab := addLn 0 60 p_rsmall [0, 3, 4] (told_rsmall κ φ) L
def phi_rsmall (s : ByteArray) (v : Int) (i : Int) : Int × Int := Classical.epsilon fun ρ => LoopTo Try.prog (lb 60 p_rsmall) (sh_rsmall s v i) (hp_rsmall s v i) (.exit 0) (sh_rsmall s (ρ.1) (ρ.2)) (hp_rsmall s (ρ.1) (ρ.2)) ∧ post_rsmall s v i ρ
theorem phi_rsmall_spec (s : ByteArray) (v : Int) (i : Int) (h : pre_rsmall s v i) : LoopTo Try.prog (lb 60 p_rsmall) (sh_rsmall s v i) (hp_rsmall s v i) (.exit 0) (sh_rsmall s ((phi_rsmall s v i).1) ((phi_rsmall s v i).2)) (hp_rsmall s ((phi_rsmall s v i).1) ((phi_rsmall s v i).2)) ∧ post_rsmall s v i (phi_rsmall s v i) := Classical.epsilon_spec (loop_rsmall s v i h)
def cond_rsmall (s : ByteArray) (v : Int) (i : Int) : Bool := @decide (pre_rsmall s v i) (Classical.propDecidable _)
theorem cond_rsmall_eq (s : ByteArray) (v : Int) (i : Int) (h : pre_rsmall s v i) : cond_rsmall s v i = true := @decide_eq_true _ (Classical.propDecidable _) h
theorem told_rsmall_ok (T : List AV) (H : Hp) (e : Ex) (T1 : List AV) (H1 : Hp) (h : told_rsmall cond_rsmall phi_rsmall T H = some (true, e, T1, H1)) : V.Ends Try.prog false 0 0 (.loop (lb 60 p_rsmall)) T H e T1 H1 := by
  unfold told_rsmall at h
  split at h
  · rename_i s v i h0 h3 h4
    rw [Bool.cond_eq_ite] at h
    split at h
    · rename_i hlen
      rw [beq_iff_eq] at hlen
      simp only [Option.some.injEq, Prod.mk.injEq, Bool.and_eq_true, decide_eq_true_eq] at h
      obtain ⟨k1, rfl, rfl, rfl⟩ := h
      have kc := @of_decide_eq_true _ (Classical.propDecidable _) k1
      refine Ends.pre (phi_rsmall_spec s v i kc).1.ends (fun α B w D ys hr => slots_rel hlen (fun p hp y hy => ?_) hr)
      simp only [List.mem_cons, List.not_mem_nil, or_false] at hp
      rcases hp with rfl | rfl | rfl
      · rw [h0] at hy; exact hy
      · rw [h3] at hy; exact hy
      · rw [h4] at hy; exact hy
    · cases h
  · cases h
theorem LL_rsmall_ok {L : LTab} (h : LOk Try.prog L) : LOk Try.prog (LL_rsmall cond_rsmall phi_rsmall L) := h.add2n body_rsmall told_rsmall_ok
def ERs (κ : KT_rsmall) (φ : FT_rsmall) : Env := ⟨noC, Kall, LL_rsmall κ φ noL⟩
theorem rsmall_call (κ : KT_rsmall) (φ : FT_rsmall) (s : ByteArray) : callA Try.prog (ERs κ φ) 10 10 60 [.val (.string s)] =
    (bif κ s (0 : Int) (0 : Int) then some (.val (.int .i64 ((φ s (0 : Int) (0 : Int)).fst))) else none) := by kernel_rfl
def tRSmall (S : Sg) (args : List AV) : Option (Bool × AV) := match args with | [.val (.string s)] => some (decide (s.size ≤ 8) && decide (S.vs s < 9223372036854775808), .val (.int .i64 (S.vs s))) | _ => none
theorem eRSmall0 : Entry Try.prog 60 (tRSmall sg0) := by
  refine entry_of (E := ERs cond_rsmall phi_rsmall) (u := 10) (d := 10) (meets_none _) (LL_rsmall_ok LOk.none).ok mixed (by kernel_rfl) (fun args r h => ?_)
  unfold tRSmall at h
  split at h
  · rename_i s
    simp only [Option.some.injEq, Prod.mk.injEq, Bool.and_eq_true, decide_eq_true_eq] at h
    obtain ⟨⟨h1, h2⟩, rfl⟩ := h
    have hp : pre_rsmall s 0 0 := ⟨h1, h2, rfl, rfl⟩
    have h3 := (phi_rsmall_spec _ _ _ hp).2
    have h3 : (phi_rsmall s 0 0).1 = (vS s : Nat) := h3
    rw [rsmall_call, cond_rsmall_eq _ _ _ hp, h3]
    rfl
  · cases h
theorem rvalue_call (S : Sg) (b : Bool) (s : ByteArray) : callA Try.prog ⟨addC 60 (tRSmall S) noC, Kall, noL⟩ 10 10 53 [.agg [.val (.bool b), .val (.string s)]] =
    (bif b then (bif decide (s.size ≤ (8 : Nat)) && decide (S.vs s < (9223372036854775808 : Nat)) then some (.val (.int .i64 (IntKind.i64.wrap ((0 : Int) - (↑(S.vs s) : Int))))) else none) else (bif decide (s.size ≤ (8 : Nat)) && decide (S.vs s < (9223372036854775808 : Nat)) then some (.val (.int .i64 ((↑(S.vs s) : Int)))) else none)) := by kernel_rfl
def tRValue (S : Sg) (args : List AV) : Option (Bool × AV) := match args with | [.agg [.val (.bool b), .val (.string s)]] => some (decide (s.size ≤ 8) && decide (S.vs s < 9223372036854775808), .val (.int .i64 (S.val b s))) | _ => none
theorem eRValue : Entry Try.prog 53 (tRValue sg0) := by
  refine entry_of (E := ⟨addC 60 (tRSmall sg0) noC, Kall, noL⟩) (u := 10) (d := 10) ((meets_none _).add eRSmall0) loops_none mixed (by kernel_rfl) (fun args r h => ?_)
  unfold tRValue at h
  split at h
  · rename_i b s
    simp only [Option.some.injEq, Prod.mk.injEq, Bool.and_eq_true, decide_eq_true_eq] at h
    obtain ⟨⟨h1, h2⟩, rfl⟩ := h
    rw [rvalue_call, dT h1, dT h2]
    have hv : sg0.val b s = if b = true then -(sg0.vs s : Int) else (sg0.vs s : Int) := rfl
    rw [hv]
    cases b with
    | true =>
      have e : IntKind.i64.wrap (0 - ((sg0.vs s : Nat) : Int)) = -((sg0.vs s : Nat) : Int) := by rw [IntKind.wrap_i64]; omega
      rw [e]
      rfl
    | false => rfl
  · cases h
/-! ### mag -/
abbrev p_rmag : List Bool := [false, false, true, true, true, true]
def sh_rmag (n : Int) (i : Int) (zs : List Int) : List AV := slots 26 [(0, .val (.int .i64 n)), (3, .ptr 0 0), (4, .val (.int .i64 i))]
def hp_rmag (n : Int) (i : Int) (zs : List Int) : Hp := [.row (.ints .u8 zs) 93 .live]
theorem body_rmag : subC Try.prog 67 p_rmag = some (.loop (lb 67 p_rmag)) := by kernel_rfl
theorem code_rmag : subC Try.prog 67 (false :: p_rmag) = some (lb 67 p_rmag) := by kernel_rfl
theorem round_rmag  (n : Int) (i : Int) (zs : List Int) : roundA Try.prog EL0 67 [0, 3, 4] (lb 67 p_rmag) (false :: p_rmag) (sh_rmag n i zs) (hp_rmag n i zs) =
    (bif decide ((0 : Int) < n) then (bif inR IntKind.i64 (i - (1 : Int)) then (bif decide ((0 : Int) ≤ i - (1 : Int)) && decide (i - (1 : Int) < (8 : Int)) then (bif decide ((0 : Nat) + (i - (1 : Int)).toNat * (1 : Nat) < zs.length) then some (.normal, slots 26 [(0, (.val (.int .i64 (n.fdiv (256 : Int))))), (3, (.ptr 0 0)), (4, (.val (.int .i64 (i - (1 : Int)))))], [(.row (.ints .u8 (zs.set ((0 : Nat) + (i - (1 : Int)).toNat * (1 : Nat)) (IntKind.u8.wrap n))) 93 .live)]) else none) else none) else none) else some ((.exit 0), slots 26 [(0, (.val (.int .i64 n))), (3, (.ptr 0 0)), (4, (.val (.int .i64 i)))], [(.row (.ints .u8 zs) 93 .live)])) := by kernel_rfl
theorem step_rmag {n : Int} {i : Int} {zs : List Int} {e : Ex} {T : List AV} {H : Hp} (h : roundA Try.prog EL0 67 [0, 3, 4] (lb 67 p_rmag) (false :: p_rmag) (sh_rmag n i zs) (hp_rmag n i zs) = some (e, T, H)) : V.Ends Try.prog false 0 0 (lb 67 p_rmag) (sh_rmag n i zs) (hp_rmag n i zs) e T H :=
  round_ends (meets_none _) loops_none mixed code_rmag h
def pre_rmag (n i : Int) (zs : List Int) : Prop := 0 ≤ n ∧ n ≤ 9223372036854775807 ∧ i = 8 ∧ zs = [0, 0, 0, 0, 0, 0, 0, 0]
def post_rmag (n i : Int) (zs : List Int) (r : Int × Int × List Int) : Prop := ∃ k : Nat, r.2.1 = k ∧ k ≤ 8 ∧ r.2.2.length = 8 ∧ (r.2.2.drop k).map (fun z => UInt8.ofNat z.toNat) = toB n.toNat
theorem rmag_go : ∀ (k n : Nat) (zs : List Int) (l : List UInt8), zs.length = 8 → k ≤ 8 → n < 256 ^ k → (zs.drop k).map (fun z => UInt8.ofNat z.toNat) = l →
    ∃ r : Int × Int × List Int, LoopTo Try.prog (lb 67 p_rmag) (sh_rmag n k zs) (hp_rmag n k zs) (.exit 0) (sh_rmag r.1 r.2.1 r.2.2) (hp_rmag r.1 r.2.1 r.2.2) ∧ ∃ j : Nat, r.2.1 = j ∧ j ≤ 8 ∧ r.2.2.length = 8 ∧ (r.2.2.drop j).map (fun z => UInt8.ofNat z.toNat) = toB n ++ l := by
  intro k
  induction k with
  | zero =>
    intro n zs l hl hk hn he
    have hn0 : n = 0 := by simpa using hn
    subst hn0
    refine ⟨((0 : Nat), (0 : Nat), zs), .last (step_rmag ?_) (by intro h; cases h), 0, rfl, by omega, hl, by rw [toB_zero]; exact he⟩
    rw [round_rmag, dF (show ¬ ((0 : Int) < ((0 : Nat) : Int)) by omega)]
    rfl
  | succ k ih =>
    intro n zs l hl hk hn he
    by_cases h0 : n = 0
    · subst h0
      refine ⟨((0 : Nat), ((k + 1 : Nat) : Int), zs), .last (step_rmag ?_) (by intro h; cases h), k + 1, rfl, by omega, hl, by rw [toB_zero]; exact he⟩
      rw [round_rmag, dF (show ¬ ((0 : Int) < ((0 : Nat) : Int)) by omega)]
      rfl
    · have e1 : ((k + 1 : Nat) : Int) - 1 = (k : Int) := by omega
      have hr := round_rmag n ((k + 1 : Nat) : Int) zs
      obtain ⟨r, h1, j, h2, h3, h4, h5⟩ := ih (n / 256) (zs.set k ((n % 256 : Nat) : Int)) (UInt8.ofNat n :: l) (by rw [List.length_set]; exact hl) (by omega) (by rw [Nat.div_lt_iff_lt_mul (by decide), ← Nat.pow_succ]; exact hn) (by
        rw [List.drop_eq_getElem_cons (by rw [List.length_set]; omega), List.getElem_set_self, List.drop_set_of_lt (by omega), List.map_cons, he, Int.toNat_natCast]
        refine congrArg (· :: l) ?_
        apply UInt8.toNat_inj.1
        rw [UInt8.toNat_ofNat', UInt8.toNat_ofNat']
        omega)
      refine ⟨r, .more (step_rmag ?_) h1, j, h2, h3, h4, by rw [h5, toB_pos h0, List.append_assoc]; rfl⟩
      rw [e1, Int.toNat_natCast, Nat.zero_add, Nat.mul_one, i64L k (by omega), dT (show (0 : Int) < n by omega), dT (show (0 : Int) ≤ (k : Int) by omega), dT (show (k : Int) < 8 by omega), dT (show k < zs.length by omega), show IntKind.u8.wrap (n : Int) = ((n % 256 : Nat) : Int) from by rw [u8_wrap]; rfl, show (n : Int).fdiv (256 : Int) = ((n / 256 : Nat) : Int) from fdivN n 256] at hr
      rw [hr]
      rfl
theorem loop_rmag (n i : Int) (zs : List Int) (h : pre_rmag n i zs) : ∃ r : Int × Int × List Int, LoopTo Try.prog (lb 67 p_rmag) (sh_rmag n i zs) (hp_rmag n i zs) (.exit 0) (sh_rmag r.1 r.2.1 r.2.2) (hp_rmag r.1 r.2.1 r.2.2) ∧ post_rmag n i zs r := by
  obtain ⟨h1, h2, rfl, rfl⟩ := h
  obtain ⟨n, rfl⟩ := Int.eq_ofNat_of_zero_le h1
  obtain ⟨r, k1, j, k2, k3, k4, k5⟩ := rmag_go 8 n [0, 0, 0, 0, 0, 0, 0, 0] [] rfl (by omega) (by have : (256 : Nat) ^ 8 = 18446744073709551616 := rfl; omega) rfl
  exact ⟨r, k1, j, k2, k3, k4, by rw [k5, List.append_nil]; rfl⟩
def told_rmag (κ : Int → Int → List Int → Bool) (φ : Int → Int → List Int → Int × Int × List Int) (T : List AV) (H : Hp) : Option (Bool × Ex × List AV × Hp) :=
  match lget T 0, lget T 3, lget T 4, H with
  | .val (.int .i64 n), .ptr 0 0, .val (.int .i64 i), [.row (.ints .u8 zs) 93 .live] => bif T.length == 26 then some (κ n i zs, .exit 0, sh_rmag ((φ n i zs).1) ((φ n i zs).2.1) ((φ n i zs).2.2), hp_rmag ((φ n i zs).1) ((φ n i zs).2.1) ((φ n i zs).2.2)) else none
  | _, _, _, _ => none
abbrev KT_rmag : Type := Int → Int → List Int → Bool
abbrev FT_rmag : Type := Int → Int → List Int → Int × Int × List Int
def LL_rmag (κ : KT_rmag) (φ : FT_rmag) (L : LTab) : LTab := addLn 0 67 p_rmag [0, 3, 4] (told_rmag κ φ) L
def phi_rmag (n : Int) (i : Int) (zs : List Int) : Int × Int × List Int := Classical.epsilon fun ρ => LoopTo Try.prog (lb 67 p_rmag) (sh_rmag n i zs) (hp_rmag n i zs) (.exit 0) (sh_rmag (ρ.1) (ρ.2.1) (ρ.2.2)) (hp_rmag (ρ.1) (ρ.2.1) (ρ.2.2)) ∧ post_rmag n i zs ρ
theorem phi_rmag_spec (n : Int) (i : Int) (zs : List Int) (h : pre_rmag n i zs) : LoopTo Try.prog (lb 67 p_rmag) (sh_rmag n i zs) (hp_rmag n i zs) (.exit 0) (sh_rmag ((phi_rmag n i zs).1) ((phi_rmag n i zs).2.1) ((phi_rmag n i zs).2.2)) (hp_rmag ((phi_rmag n i zs).1) ((phi_rmag n i zs).2.1) ((phi_rmag n i zs).2.2)) ∧ post_rmag n i zs (phi_rmag n i zs) := Classical.epsilon_spec (loop_rmag n i zs h)
def cond_rmag (n : Int) (i : Int) (zs : List Int) : Bool := @decide (pre_rmag n i zs) (Classical.propDecidable _)
theorem cond_rmag_eq (n : Int) (i : Int) (zs : List Int) (h : pre_rmag n i zs) : cond_rmag n i zs = true := @decide_eq_true _ (Classical.propDecidable _) h
theorem told_rmag_ok (T : List AV) (H : Hp) (e : Ex) (T1 : List AV) (H1 : Hp) (h : told_rmag cond_rmag phi_rmag T H = some (true, e, T1, H1)) : V.Ends Try.prog false 0 0 (.loop (lb 67 p_rmag)) T H e T1 H1 := by
  unfold told_rmag at h
  split at h
  · rename_i n i zs h0 h3 h4
    rw [Bool.cond_eq_ite] at h
    split at h
    · rename_i hlen
      rw [beq_iff_eq] at hlen
      simp only [Option.some.injEq, Prod.mk.injEq, Bool.and_eq_true, decide_eq_true_eq] at h
      obtain ⟨k1, rfl, rfl, rfl⟩ := h
      have kc := @of_decide_eq_true _ (Classical.propDecidable _) k1
      refine Ends.pre (phi_rmag_spec n i zs kc).1.ends (fun α B w D ys hr => slots_rel hlen (fun p hp y hy => ?_) hr)
      simp only [List.mem_cons, List.not_mem_nil, or_false] at hp
      rcases hp with rfl | rfl | rfl
      · rw [h0] at hy; exact hy
      · rw [h3] at hy; exact hy
      · rw [h4] at hy; exact hy
    · cases h
  · cases h
theorem LL_rmag_ok {L : LTab} (h : LOk Try.prog L) : LOk Try.prog (LL_rmag cond_rmag phi_rmag L) := h.add2n body_rmag told_rmag_ok
def ERm (κ : KT_rmag) (φ : FT_rmag) : Env := ⟨noC, Kall, LL_rmag κ φ noL⟩
theorem rmag_call (κ : KT_rmag) (φ : FT_rmag) (z : Int) : callA Try.prog (ERm κ φ) 10 10 67 [.val (.int .i64 z)] =
    (bif decide (z < (256 : Int)) then (bif decide (z = (0 : Int)) then some (.val (.string (ByteArray.mk #[]))) else some (.val (.string (ofBytes [IntKind.u8.wrap z])))) else (bif κ z (8 : Int) [(0 : Int), (0 : Int), (0 : Int), (0 : Int), (0 : Int), (0 : Int), (0 : Int), (0 : Int)] then (bif decide ((8 : Nat) ≤ (φ z (8 : Int) [(0 : Int), (0 : Int), (0 : Int), (0 : Int), (0 : Int), (0 : Int), (0 : Int), (0 : Int)]).snd.snd.length) then (bif decide ((0 : Int) ≤ (φ z (8 : Int) [(0 : Int), (0 : Int), (0 : Int), (0 : Int), (0 : Int), (0 : Int), (0 : Int), (0 : Int)]).snd.fst) && decide ((φ z (8 : Int) [(0 : Int), (0 : Int), (0 : Int), (0 : Int), (0 : Int), (0 : Int), (0 : Int), (0 : Int)]).snd.fst ≤ (8 : Int)) then (bif decide ((0 : Nat) + (φ z (8 : Int) [(0 : Int), (0 : Int), (0 : Int), (0 : Int), (0 : Int), (0 : Int), (0 : Int), (0 : Int)]).snd.fst.toNat * (1 : Nat) + ((8 : Nat) - (φ z (8 : Int) [(0 : Int), (0 : Int), (0 : Int), (0 : Int), (0 : Int), (0 : Int), (0 : Int), (0 : Int)]).snd.fst.toNat) * (1 : Nat) ≤ (φ z (8 : Int) [(0 : Int), (0 : Int), (0 : Int), (0 : Int), (0 : Int), (0 : Int), (0 : Int), (0 : Int)]).snd.snd.length) then some (.val (.string (ofBytes (List.take (((8 : Nat) - (φ z (8 : Int) [(0 : Int), (0 : Int), (0 : Int), (0 : Int), (0 : Int), (0 : Int), (0 : Int), (0 : Int)]).snd.fst.toNat) * (1 : Nat)) (List.drop ((0 : Nat) + (φ z (8 : Int) [(0 : Int), (0 : Int), (0 : Int), (0 : Int), (0 : Int), (0 : Int), (0 : Int), (0 : Int)]).snd.fst.toNat * (1 : Nat)) (φ z (8 : Int) [(0 : Int), (0 : Int), (0 : Int), (0 : Int), (0 : Int), (0 : Int), (0 : Int), (0 : Int)]).snd.snd))))) else none) else none) else none) else none)) := by kernel_rfl
theorem rof_call (S : Sg) (z : Int) : callA Try.prog ⟨addC 67 (fun args => match args with | [.val (.int .i64 z)] => some (decide (0 ≤ z), .val (.string (S.mg z.toNat))) | _ => none) noC, Kall, noL⟩ 10 10 35 [.val (.int .i64 z)] =
    (bif decide ((0 : Int) ≤ z) then (bif decide ((0 : Int) ≤ z) then some (.agg [(.val (.bool false)), (.val (.string (S.mg z.toNat)))]) else none) else (bif decide (z = IntKind.i64.wrap ((0 : Int) - z)) then some (.agg [(.val (.bool true)), (.val (.string (ByteArray.mk #[(128 : UInt8), (0 : UInt8), (0 : UInt8), (0 : UInt8), (0 : UInt8), (0 : UInt8), (0 : UInt8), (0 : UInt8)])))]) else (bif decide ((0 : Int) ≤ IntKind.i64.wrap ((0 : Int) - z)) then some (.agg [(.val (.bool true)), (.val (.string (S.mg (IntKind.i64.wrap ((0 : Int) - z)).toNat)))]) else none))) := by kernel_rfl
theorem rneg_call (S : Sg) (b : Bool) (s : ByteArray) : callA Try.prog ⟨addC 52 (tCanon S) noC, Kall, noL⟩ 10 10 37 [.agg [.val (.bool b), .val (.string s)]] =
    (bif !S.ng (S.val b s) then some (.agg [(.val (.bool (!strEq (S.ms (S.val b s)) (ByteArray.mk #[])))), (.val (.string (S.ms (S.val b s))))]) else some (.agg [(.val (.bool false)), (.val (.string (S.ms (S.val b s))))])) := by kernel_rfl
theorem rcheck_call (S : Sg) (b : Bool) (s : ByteArray) : callA Try.prog ⟨addC 52 (tCanon S) noC, Kall, noL⟩ 10 10 36 [.agg [.val (.bool b), .val (.string s)]] =
    (bif bif true then !(b == S.ng (S.val b s) && (strEq s (S.ms (S.val b s)) && true)) else b == S.ng (S.val b s) && (strEq s (S.ms (S.val b s)) && true) then some (.val (.int .i64 1)) else some (.val (.int .i64 0))) := by kernel_rfl
theorem rcmpmag_call (s t : ByteArray) : callA Try.prog E000 10 10 55 [.val (.string s), .val (.string t)] =
    (bif !decide ((↑s.size : Int) = (↑t.size : Int)) then (bif decide ((↑s.size : Int) < (↑t.size : Int)) then some (.val (.int .i64 (-1))) else some (.val (.int .i64 1))) else (bif V.strLt s t then some (.val (.int .i64 (-1))) else (bif !(V.strLt s t || strEq s t) then some (.val (.int .i64 1)) else some (.val (.int .i64 0))))) := by kernel_rfl
end
end Go.Proofs.Ytlpfnbopmigefaa.L

/- Of the reference: addMag, subMag, told. -/
set_option linter.unusedVariables false
set_option linter.unusedSimpArgs false
namespace Go.Proofs.Ytlpfnbopmigefaa.L
open Go Go.V Go.RowKit Go.Proofs.Ytlpfnbopmigefaa.Sp Go.Proofs.Ytlpfnbopmigefaa.F Go.Proofs.YtlpfnbopmigefaaW.PrintWords
open Go.Proofs (Try.prog)
noncomputable section
/-! ### bytes as numbers -/
def vY (zs : List Int) : Nat := vB (zs.map fun z => UInt8.ofNat z.toNat)
theorem vS_of (zs : List Int) : vS (ofBytes zs) = vY zs := rfl
theorem vY_cons (x : Nat) (zs : List Int) (h : x < 256) : vY ((x : Int) :: zs) = x * 256 ^ zs.length + vY zs := by
  unfold vY
  rw [List.map_cons, vB_cons, List.length_map, Int.toNat_natCast, UInt8.toNat_ofNat', Nat.mod_eq_of_lt h]
theorem vY_nil : vY [] = 0 := rfl
theorem vY_set (zs : List Int) (j x : Nat) (hj : j < zs.length) (hx : x < 256) : vY ((zs.set j (x : Int)).drop j) = x * 256 ^ (zs.length - j - 1) + vY (zs.drop (j + 1)) := by
  rw [List.drop_eq_getElem_cons (by rw [List.length_set]; exact hj), List.getElem_set_self, vY_cons _ _ hx, List.length_drop, List.length_set, List.drop_set_of_lt (by omega)]
  rw [show zs.length - (j + 1) = zs.length - j - 1 by omega]
/-- The i-th digit, from the last on. -/
theorem digit_at (s : ByteArray) (i : Nat) (h1 : i < s.size) : byteAt s (s.size - (i + 1)) = ((vS s / 256 ^ i % 256 : Nat) : Int) := by
  have hl : s.size - (i + 1) < s.data.toList.length := by rw [← size_list]; omega
  unfold byteAt
  rw [List.getD_eq_getElem?_getD, List.getElem?_eq_getElem hl, Option.getD_some]
  have e : s.data.toList = s.data.toList.take (s.size - (i + 1)) ++ (s.data.toList[s.size - (i + 1)] :: s.data.toList.drop (s.size - (i + 1) + 1)) := by
    rw [← List.drop_eq_getElem_cons hl, List.take_append_drop]
  have hv : vS s = vB s.data.toList := rfl
  have hd : (s.data.toList.drop (s.size - (i + 1) + 1)).length = i := by rw [List.length_drop, ← size_list]; omega
  have hlt := vB_lt (s.data.toList.drop (s.size - (i + 1) + 1))
  rw [hd] at hlt
  have hc := (s.data.toList[s.size - (i + 1)]).toNat_lt
  have hv2 : vS s = (vB (s.data.toList.take (s.size - (i + 1))) * 256 + (s.data.toList[s.size - (i + 1)]).toNat) * 256 ^ i + vB (s.data.toList.drop (s.size - (i + 1) + 1)) := by
    rw [hv]
    conv => lhs; rw [e]
    rw [vB_append, List.length_cons, hd, vB_cons, hd, Nat.pow_succ, Nat.add_mul]
    have : ∀ a : Nat, a * (256 ^ i * 256) = a * 256 * 256 ^ i := fun a => by rw [Nat.mul_assoc, Nat.mul_comm 256]
    rw [this]
    omega
  rw [hv2, Nat.mul_comm _ (256 ^ i), Nat.mul_add_div (Nat.pow_pos (by decide)), Nat.div_eq_of_lt hlt]
  omega
theorem no_digit (s : ByteArray) (i : Nat) (h : s.size ≤ i) : vS s / 256 ^ i % 256 = 0 := by
  rw [Nat.div_eq_of_lt (Nat.lt_of_lt_of_le (vS_lt s) (Nat.pow_le_pow_right (by decide) h))]
theorem mod_succ (V i : Nat) : V % 256 ^ (i + 1) = V % 256 ^ i + 256 ^ i * (V / 256 ^ i % 256) := by rw [Nat.pow_succ, Nat.mod_mul]
theorem byte_step {p n v c o : Nat} (h : v + p * c = o) : n % 256 * p + v + p * 256 * (n / 256) + p * c = o + p * n := by
  have e : p * (n % 256) + p * 256 * (n / 256) = p * n := by rw [Nat.mul_assoc, ← Nat.mul_add, Nat.mod_add_div]
  rw [Nat.mul_comm (n % 256)]
  omega
theorem u8w (n : Nat) : IntKind.u8.wrap (n : Int) = ((n % 256 : Nat) : Int) := by rw [u8_wrap]; rfl
theorem fdiv256 (a : Nat) : (a : Int).fdiv (256 : Int) = ((a / 256 : Nat) : Int) := fdivN a 256
/-! ### addMag -/
abbrev p_radd : List Bool := [false, true, false, true, true, true, true]
def sh_radd (s : ByteArray) (t : ByteArray) (n : Int) (zs : List Int) (c : Int) (i : Int) : List AV := slots 60 [(0, .val (.string s)), (1, .val (.string t)), (5, .val (.int .i64 n)), (6, .sl false 5 0 0 zs.length), (7, .val (.int .i64 c)), (8, .val (.int .i64 i))]
def hp_radd (s : ByteArray) (t : ByteArray) (n : Int) (zs : List Int) (c : Int) (i : Int) : Hp := [.row (.ints .u8 zs) 5 .live]
theorem body_radd : subC Try.prog 54 p_radd = some (.loop (lb 54 p_radd)) := by kernel_rfl
theorem code_radd : subC Try.prog 54 (false :: p_radd) = some (lb 54 p_radd) := by kernel_rfl
theorem round_radd  (s : ByteArray) (t : ByteArray) (n : Int) (zs : List Int) (c : Int) (i : Int) : roundA Try.prog EL0 54 [0, 1, 5, 6, 7, 8] (lb 54 p_radd) (false :: p_radd) (sh_radd s t n zs c i) (hp_radd s t n zs c i) =
    (bif decide (i ≤ n) then (bif decide (i ≤ (↑s.size : Int)) then (bif inR IntKind.i64 ((↑s.size : Int) - i) then (bif decide ((0 : Int) ≤ (↑s.size : Int) - i) && decide ((↑s.size : Int) - i < (↑s.size : Int)) then (bif inR IntKind.i64 (byteAt s ((↑s.size : Int) - i).toNat) then (bif inR IntKind.i64 (c + byteAt s ((↑s.size : Int) - i).toNat) then (bif decide (i ≤ (↑t.size : Int)) then (bif inR IntKind.i64 ((↑t.size : Int) - i) then (bif decide ((0 : Int) ≤ (↑t.size : Int) - i) && decide ((↑t.size : Int) - i < (↑t.size : Int)) then (bif inR IntKind.i64 (byteAt t ((↑t.size : Int) - i).toNat) then (bif inR IntKind.i64 (c + byteAt s ((↑s.size : Int) - i).toNat + byteAt t ((↑t.size : Int) - i).toNat) then (bif inR IntKind.i64 (n - i) then (bif decide ((0 : Int) ≤ n - i) && decide (n - i < (↑zs.length : Int)) then (bif decide ((0 : Nat) + (n - i).toNat * (1 : Nat) < zs.length) then (bif inR IntKind.i64 (i + (1 : Int)) then some (.normal, slots 60 [(0, (.val (.string s))), (1, (.val (.string t))), (5, (.val (.int .i64 n))), (6, (.sl false 5 0 0 zs.length)), (7, (.val (.int .i64 ((c + byteAt s ((↑s.size : Int) - i).toNat + byteAt t ((↑t.size : Int) - i).toNat).fdiv (256 : Int))))), (8, (.val (.int .i64 (i + (1 : Int)))))], [(.row (.ints .u8 (zs.set ((0 : Nat) + (n - i).toNat * (1 : Nat)) (IntKind.u8.wrap (c + byteAt s ((↑s.size : Int) - i).toNat + byteAt t ((↑t.size : Int) - i).toNat)))) 5 .live)]) else none) else none) else none) else none) else none) else none) else none) else none) else (bif inR IntKind.i64 (n - i) then (bif decide ((0 : Int) ≤ n - i) && decide (n - i < (↑zs.length : Int)) then (bif decide ((0 : Nat) + (n - i).toNat * (1 : Nat) < zs.length) then (bif inR IntKind.i64 (i + (1 : Int)) then some (.normal, slots 60 [(0, (.val (.string s))), (1, (.val (.string t))), (5, (.val (.int .i64 n))), (6, (.sl false 5 0 0 zs.length)), (7, (.val (.int .i64 ((c + byteAt s ((↑s.size : Int) - i).toNat).fdiv (256 : Int))))), (8, (.val (.int .i64 (i + (1 : Int)))))], [(.row (.ints .u8 (zs.set ((0 : Nat) + (n - i).toNat * (1 : Nat)) (IntKind.u8.wrap (c + byteAt s ((↑s.size : Int) - i).toNat)))) 5 .live)]) else none) else none) else none) else none)) else none) else none) else none) else none) else (bif decide (i ≤ (↑t.size : Int)) then (bif inR IntKind.i64 ((↑t.size : Int) - i) then (bif decide ((0 : Int) ≤ (↑t.size : Int) - i) && decide ((↑t.size : Int) - i < (↑t.size : Int)) then (bif inR IntKind.i64 (byteAt t ((↑t.size : Int) - i).toNat) then (bif inR IntKind.i64 (c + byteAt t ((↑t.size : Int) - i).toNat) then (bif inR IntKind.i64 (n - i) then (bif decide ((0 : Int) ≤ n - i) && decide (n - i < (↑zs.length : Int)) then (bif decide ((0 : Nat) + (n - i).toNat * (1 : Nat) < zs.length) then (bif inR IntKind.i64 (i + (1 : Int)) then some (.normal, slots 60 [(0, (.val (.string s))), (1, (.val (.string t))), (5, (.val (.int .i64 n))), (6, (.sl false 5 0 0 zs.length)), (7, (.val (.int .i64 ((c + byteAt t ((↑t.size : Int) - i).toNat).fdiv (256 : Int))))), (8, (.val (.int .i64 (i + (1 : Int)))))], [(.row (.ints .u8 (zs.set ((0 : Nat) + (n - i).toNat * (1 : Nat)) (IntKind.u8.wrap (c + byteAt t ((↑t.size : Int) - i).toNat)))) 5 .live)]) else none) else none) else none) else none) else none) else none) else none) else none) else (bif inR IntKind.i64 (n - i) then (bif decide ((0 : Int) ≤ n - i) && decide (n - i < (↑zs.length : Int)) then (bif decide ((0 : Nat) + (n - i).toNat * (1 : Nat) < zs.length) then (bif inR IntKind.i64 (i + (1 : Int)) then some (.normal, slots 60 [(0, (.val (.string s))), (1, (.val (.string t))), (5, (.val (.int .i64 n))), (6, (.sl false 5 0 0 zs.length)), (7, (.val (.int .i64 (c.fdiv (256 : Int))))), (8, (.val (.int .i64 (i + (1 : Int)))))], [(.row (.ints .u8 (zs.set ((0 : Nat) + (n - i).toNat * (1 : Nat)) (IntKind.u8.wrap c))) 5 .live)]) else none) else none) else none) else none))) else some ((.exit 0), slots 60 [(0, (.val (.string s))), (1, (.val (.string t))), (5, (.val (.int .i64 n))), (6, (.sl false 5 0 0 zs.length)), (7, (.val (.int .i64 c))), (8, (.val (.int .i64 i)))], [(.row (.ints .u8 zs) 5 .live)])) := by kernel_rfl
theorem step_radd {s : ByteArray} {t : ByteArray} {n : Int} {zs : List Int} {c : Int} {i : Int} {e : Ex} {T : List AV} {H : Hp} (h : roundA Try.prog EL0 54 [0, 1, 5, 6, 7, 8] (lb 54 p_radd) (false :: p_radd) (sh_radd s t n zs c i) (hp_radd s t n zs c i) = some (e, T, H)) : V.Ends Try.prog false 0 0 (lb 54 p_radd) (sh_radd s t n zs c i) (hp_radd s t n zs c i) e T H :=
  round_ends (meets_none _) loops_none mixed code_radd h
def pre_radd (s t : ByteArray) (n : Int) (zs : List Int) (c i : Int) : Prop := s.size ≤ 8796093022208 ∧ t.size ≤ 8796093022208 ∧ n = ((max s.size t.size + 1 : Nat) : Int) ∧ zs.length = max s.size t.size + 1 ∧ c = 0 ∧ i = 1
def post_radd (s t : ByteArray) (n : Int) (zs : List Int) (c i : Int) (r : List Int × Int × Int) : Prop := r.1.length = max s.size t.size + 1 ∧ vY r.1 = vS s + vS t
theorem radd_go (s t : ByteArray) (hs : s.size ≤ 8796093022208) (ht : t.size ≤ 8796093022208) (n : Nat) (hn : n = max s.size t.size + 1) (d : Nat) : ∀ (i c : Nat) (zs : List Int), i + d = n → zs.length = n → c ≤ 1 →
    Aside0 (vY (zs.drop (n - i)) + 256 ^ i * c = vS s % 256 ^ i + vS t % 256 ^ i) →
    ∃ r : List Int × Int × Int, LoopTo Try.prog (lb 54 p_radd) (sh_radd s t n zs c ((i + 1 : Nat) : Int)) (hp_radd s t n zs c ((i + 1 : Nat) : Int)) (.exit 0) (sh_radd s t n r.1 r.2.1 r.2.2) (hp_radd s t n r.1 r.2.1 r.2.2) ∧ r.1.length = n ∧ vY r.1 = vS s + vS t := by
  induction d with
  | zero =>
    intro i c zs hi hl hc hv
    have hi' : i = n := by omega
    refine ⟨(zs, (c : Int), ((i + 1 : Nat) : Int)), .last (step_radd ?_) (by intro h; cases h), hl, ?_⟩
    · rw [round_radd, dF (show ¬ (((i + 1 : Nat) : Int) ≤ n) by omega)]
      rfl
    · have hv := hv.out
      rw [hi', Nat.sub_self, List.drop_zero] at hv
      have h1 : vS s < 256 ^ (n - 1) := Nat.lt_of_lt_of_le (vS_lt s) (Nat.pow_le_pow_right (by decide) (by omega))
      have h2 : vS t < 256 ^ (n - 1) := Nat.lt_of_lt_of_le (vS_lt t) (Nat.pow_le_pow_right (by decide) (by omega))
      have h3 : 256 ^ n = 256 ^ (n - 1) * 256 := by rw [← Nat.pow_succ]; exact congrArg (256 ^ ·) (by omega)
      rw [h3] at hv
      rw [Nat.mod_eq_of_lt (show vS s < 256 ^ (n - 1) * 256 by omega), Nat.mod_eq_of_lt (show vS t < 256 ^ (n - 1) * 256 by omega)] at hv
      show vY zs = _
      rcases Nat.eq_zero_or_pos c with h0 | h0
      · rw [h0] at hv; omega
      · have := Nat.le_mul_of_pos_right (256 ^ (n - 1) * 256) h0
        omega
  | succ d ih =>
    intro i c zs hi hl hc HV
    have hin : i < n := by omega
    have hj : n - (i + 1) < zs.length := by omega
    -- what a round does, the digits told
    have go : ∀ x y : Nat, x < 256 → y < 256 → x = vS s / 256 ^ i % 256 → y = vS t / 256 ^ i % 256 →
        roundA Try.prog EL0 54 [0, 1, 5, 6, 7, 8] (lb 54 p_radd) (false :: p_radd) (sh_radd s t n zs c ((i + 1 : Nat) : Int)) (hp_radd s t n zs c ((i + 1 : Nat) : Int)) = some (.normal, sh_radd s t n (zs.set (n - (i + 1)) ((c + x + y) % 256 : Nat)) ((c + x + y) / 256 : Nat) ((i + 1 + 1 : Nat) : Int), hp_radd s t n (zs.set (n - (i + 1)) ((c + x + y) % 256 : Nat)) ((c + x + y) / 256 : Nat) ((i + 1 + 1 : Nat) : Int)) →
        ∃ r : List Int × Int × Int, LoopTo Try.prog (lb 54 p_radd) (sh_radd s t n zs c ((i + 1 : Nat) : Int)) (hp_radd s t n zs c ((i + 1 : Nat) : Int)) (.exit 0) (sh_radd s t n r.1 r.2.1 r.2.2) (hp_radd s t n r.1 r.2.1 r.2.2) ∧ r.1.length = n ∧ vY r.1 = vS s + vS t := by
      intro x y hx hy ex ey hr
      obtain ⟨r, h1, h2⟩ := ih (i + 1) ((c + x + y) / 256) (zs.set (n - (i + 1)) ((c + x + y) % 256 : Nat)) (by omega) (by rw [List.length_set]; exact hl) (by omega) (by
        have hv := HV.out
        constructor
        rw [vY_set _ _ _ hj (Nat.mod_lt _ (by decide)), hl, show n - (n - (i + 1)) - 1 = i by omega, show n - (i + 1) + 1 = n - i by omega, mod_succ, mod_succ, ← ex, ← ey, Nat.pow_succ]
        have h3 := byte_step (n := c + x + y) hv
        simp only [Nat.mul_add] at h3 ⊢
        omega)
      exact ⟨r, .more (step_radd hr) h1, h2⟩
    have hr := round_radd s t n zs c ((i + 1 : Nat) : Int)
    have en : (n : Int) - ((i + 1 : Nat) : Int) = ((n - (i + 1) : Nat) : Int) := by omega
    have es : i < s.size → (s.size : Int) - ((i + 1 : Nat) : Int) = ((s.size - (i + 1) : Nat) : Int) := fun h => by omega
    have et : i < t.size → (t.size : Int) - ((i + 1 : Nat) : Int) = ((t.size - (i + 1) : Nat) : Int) := fun h => by omega
    have e2 : ((i + 1 : Nat) : Int) + 1 = ((i + 1 + 1 : Nat) : Int) := by omega
    have hdx := Nat.mod_lt (vS s / 256 ^ i) (show 0 < 256 by decide)
    have hdy := Nat.mod_lt (vS t / 256 ^ i) (show 0 < 256 by decide)
    have dx := digit_at s i
    have dy := digit_at t i
    have nx := no_digit s i
    have ny := no_digit t i
    generalize vS s / 256 ^ i % 256 = x at *
    generalize vS t / 256 ^ i % 256 = y at *
    have q1 : inR .i64 ((n - (i + 1) : Nat) : Int) = true := i64L _ (by omega)
    have q2 : inR .i64 ((i + 1 + 1 : Nat) : Int) = true := i64L _ (by omega)
    refine go x y hdx hdy rfl rfl ?_
    rw [en, e2, q1, q2, dT (show ((i + 1 : Nat) : Int) ≤ n by omega), dT (show (0 : Int) ≤ ((n - (i + 1) : Nat) : Int) by omega), dT (show ((n - (i + 1) : Nat) : Int) < (zs.length : Int) by omega), Int.toNat_natCast, Nat.zero_add, Nat.mul_one, dT hj] at hr
    by_cases hsi : i < s.size
    · rw [dT (show ((i + 1 : Nat) : Int) ≤ s.size by omega), es hsi, i64L (s.size - (i + 1)) (by omega), dT (show (0 : Int) ≤ ((s.size - (i + 1) : Nat) : Int) by omega), dT (show ((s.size - (i + 1) : Nat) : Int) < (s.size : Int) by omega), Int.toNat_natCast, dx hsi, i64L x (by omega), ← Int.natCast_add, i64L (c + x) (by omega)] at hr
      by_cases hti : i < t.size
      · rw [dT (show ((i + 1 : Nat) : Int) ≤ t.size by omega), et hti, i64L (t.size - (i + 1)) (by omega), dT (show (0 : Int) ≤ ((t.size - (i + 1) : Nat) : Int) by omega), dT (show ((t.size - (i + 1) : Nat) : Int) < (t.size : Int) by omega), Int.toNat_natCast, dy hti, i64L y (by omega), ← Int.natCast_add, i64L (c + x + y) (by omega), u8w, fdiv256] at hr
        rw [hr]
        unfold sh_radd hp_radd
        rw [List.length_set]
        rfl
      · have hy0 := ny (by omega)
        rw [dF (show ¬ ((i + 1 : Nat) : Int) ≤ t.size by omega), u8w, fdiv256] at hr
        rw [hr, hy0]
        unfold sh_radd hp_radd
        rw [List.length_set]
        rfl
    · have hx0 := nx (by omega)
      rw [dF (show ¬ ((i + 1 : Nat) : Int) ≤ s.size by omega)] at hr
      by_cases hti : i < t.size
      · rw [dT (show ((i + 1 : Nat) : Int) ≤ t.size by omega), et hti, i64L (t.size - (i + 1)) (by omega), dT (show (0 : Int) ≤ ((t.size - (i + 1) : Nat) : Int) by omega), dT (show ((t.size - (i + 1) : Nat) : Int) < (t.size : Int) by omega), Int.toNat_natCast, dy hti, i64L y (by omega), ← Int.natCast_add, i64L (c + y) (by omega), u8w, fdiv256] at hr
        rw [hr, hx0]
        unfold sh_radd hp_radd
        rw [List.length_set]
        rfl
      · have hy0 := ny (by omega)
        rw [dF (show ¬ ((i + 1 : Nat) : Int) ≤ t.size by omega), u8w, fdiv256] at hr
        rw [hr, hx0, hy0]
        unfold sh_radd hp_radd
        rw [List.length_set]
        rfl
theorem loop_radd (s t : ByteArray) (n : Int) (zs : List Int) (c i : Int) (h : pre_radd s t n zs c i) : ∃ r : List Int × Int × Int, LoopTo Try.prog (lb 54 p_radd) (sh_radd s t n zs c i) (hp_radd s t n zs c i) (.exit 0) (sh_radd s t n r.1 r.2.1 r.2.2) (hp_radd s t n r.1 r.2.1 r.2.2) ∧ post_radd s t n zs c i r := by
  obtain ⟨h1, h2, rfl, h4, rfl, rfl⟩ := h
  obtain ⟨r, k1, k2, k3⟩ := radd_go s t h1 h2 _ rfl (max s.size t.size + 1) 0 0 zs (by omega) h4 (by omega) ⟨by rw [Nat.sub_zero, List.drop_of_length_le (by omega), vY_nil]; simp [Nat.mod_one]⟩
  exact ⟨r, k1, k2, k3⟩
def mxI (a b : Int) : Int := @ite Int (a < b) (Int.decLt a b) b a
theorem mxI_nat (a b : Nat) : mxI (a : Int) (b : Int) = ((max a b : Nat) : Int) := by
  unfold mxI
  by_cases h : (a : Int) < b
  · rw [if_pos h]; omega
  · rw [if_neg h]; omega
def told_radd (κ : ByteArray → ByteArray → Int → List Int → Int → Int → Bool) (φ : ByteArray → ByteArray → Int → List Int → Int → Int → List Int × Int × Int) (T : List AV) (H : Hp) : Option (Bool × Ex × List AV × Hp) :=
  match lget T 0, lget T 1, lget T 5, lget T 6, lget T 7, lget T 8, H with
  | .val (.string s), .val (.string t), .val (.int .i64 n), .sl false 5 0 0 m_zs, .val (.int .i64 c), .val (.int .i64 i), [.row (.ints .u8 zs) 5 .live] => bif T.length == 60 then some (decide (m_zs = zs.length) && κ s t n zs c i, .exit 0, sh_radd s t n ((φ s t n zs c i).1) ((φ s t n zs c i).2.1) ((φ s t n zs c i).2.2), hp_radd s t n ((φ s t n zs c i).1) ((φ s t n zs c i).2.1) ((φ s t n zs c i).2.2)) else none
  | _, _, _, _, _, _, _ => none
abbrev KT_radd : Type := ByteArray → ByteArray → Int → List Int → Int → Int → Bool
abbrev FT_radd : Type := ByteArray → ByteArray → Int → List Int → Int → Int → List Int × Int × Int
def LL_radd (κ : KT_radd) (φ : FT_radd) (L : LTab) : LTab := addLn 0 54 p_radd [0, 1, 5, 6, 7, 8] (told_radd κ φ) L
def phi_radd (s : ByteArray) (t : ByteArray) (n : Int) (zs : List Int) (c : Int) (i : Int) : List Int × Int × Int := Classical.epsilon fun ρ => LoopTo Try.prog (lb 54 p_radd) (sh_radd s t n zs c i) (hp_radd s t n zs c i) (.exit 0) (sh_radd s t n (ρ.1) (ρ.2.1) (ρ.2.2)) (hp_radd s t n (ρ.1) (ρ.2.1) (ρ.2.2)) ∧ post_radd s t n zs c i ρ
theorem phi_radd_spec (s : ByteArray) (t : ByteArray) (n : Int) (zs : List Int) (c : Int) (i : Int) (h : pre_radd s t n zs c i) : LoopTo Try.prog (lb 54 p_radd) (sh_radd s t n zs c i) (hp_radd s t n zs c i) (.exit 0) (sh_radd s t n ((phi_radd s t n zs c i).1) ((phi_radd s t n zs c i).2.1) ((phi_radd s t n zs c i).2.2)) (hp_radd s t n ((phi_radd s t n zs c i).1) ((phi_radd s t n zs c i).2.1) ((phi_radd s t n zs c i).2.2)) ∧ post_radd s t n zs c i (phi_radd s t n zs c i) := Classical.epsilon_spec (loop_radd s t n zs c i h)
def cond_radd (s : ByteArray) (t : ByteArray) (n : Int) (zs : List Int) (c : Int) (i : Int) : Bool := @decide (pre_radd s t n zs c i) (Classical.propDecidable _)
theorem cond_radd_eq (s : ByteArray) (t : ByteArray) (n : Int) (zs : List Int) (c : Int) (i : Int) (h : pre_radd s t n zs c i) : cond_radd s t n zs c i = true := @decide_eq_true _ (Classical.propDecidable _) h
theorem told_radd_ok (T : List AV) (H : Hp) (e : Ex) (T1 : List AV) (H1 : Hp) (h : told_radd cond_radd phi_radd T H = some (true, e, T1, H1)) : V.Ends Try.prog false 0 0 (.loop (lb 54 p_radd)) T H e T1 H1 := by
  unfold told_radd at h
  split at h
  · rename_i s t n m_zs c i zs h0 h1 h5 h6 h7 h8
    rw [Bool.cond_eq_ite] at h
    split at h
    · rename_i hlen
      rw [beq_iff_eq] at hlen
      simp only [Option.some.injEq, Prod.mk.injEq, Bool.and_eq_true, decide_eq_true_eq] at h
      obtain ⟨⟨k1, k2⟩, rfl, rfl, rfl⟩ := h
      have kc := @of_decide_eq_true _ (Classical.propDecidable _) k2
      refine Ends.pre (phi_radd_spec s t n zs c i kc).1.ends (fun α B w D ys hr => slots_rel hlen (fun p hp y hy => ?_) hr)
      simp only [List.mem_cons, List.not_mem_nil, or_false] at hp
      rcases hp with rfl | rfl | rfl | rfl | rfl | rfl
      · rw [h0] at hy; exact hy
      · rw [h1] at hy; exact hy
      · rw [h5] at hy; exact hy
      · rw [h6] at hy; rw [← k1]; exact hy
      · rw [h7] at hy; exact hy
      · rw [h8] at hy; exact hy
    · cases h
  · cases h
theorem LL_radd_ok {L : LTab} (h : LOk Try.prog L) : LOk Try.prog (LL_radd cond_radd phi_radd L) := h.add2n body_radd told_radd_ok
def ERa (S : Sg) (κ : KT_radd) (φ : FT_radd) : Env := ⟨addC 65 (tStrip S) noC, Kall, LL_radd κ φ noL⟩
theorem radd_call (S : Sg) (κ : KT_radd) (φ : FT_radd) (s t : ByteArray) : callA Try.prog (ERa S κ φ) 10 10 54 [.val (.string s), .val (.string t)] =
    (bif inR IntKind.i64 ((mxI (↑s.size : Int) (↑t.size : Int)) + (1 : Int)) then (bif decide ((0 : Int) ≤ (mxI (↑s.size : Int) (↑t.size : Int)) + (1 : Int)) && decide ((mxI (↑s.size : Int) (↑t.size : Int)) + (1 : Int) ≤ (mxI (↑s.size : Int) (↑t.size : Int)) + (1 : Int)) && decide ((1 : Int) * ((mxI (↑s.size : Int) (↑t.size : Int)) + (1 : Int)) ≤ (281474976710656 : Int)) && decide ((mxI (↑s.size : Int) (↑t.size : Int)) + (1 : Int) ≤ (9223372036854775807 : Int)) then (bif decide (((mxI (↑s.size : Int) (↑t.size : Int)) + (1 : Int)).toNat = (List.replicate ((mxI (↑s.size : Int) (↑t.size : Int)) + (1 : Int)).toNat (0 : Int)).length) && κ s t ((mxI (↑s.size : Int) (↑t.size : Int)) + (1 : Int)) (List.replicate ((mxI (↑s.size : Int) (↑t.size : Int)) + (1 : Int)).toNat (0 : Int)) (0 : Int) (1 : Int) then (bif decide ((0 : Nat) + (φ s t ((mxI (↑s.size : Int) (↑t.size : Int)) + (1 : Int)) (List.replicate ((mxI (↑s.size : Int) (↑t.size : Int)) + (1 : Int)).toNat (0 : Int)) (0 : Int) (1 : Int)).fst.length * (1 : Nat) ≤ (φ s t ((mxI (↑s.size : Int) (↑t.size : Int)) + (1 : Int)) (List.replicate ((mxI (↑s.size : Int) (↑t.size : Int)) + (1 : Int)).toNat (0 : Int)) (0 : Int) (1 : Int)).fst.length) then some (.val (.string (S.mg (S.vs (ofBytes (List.take ((φ s t ((mxI (↑s.size : Int) (↑t.size : Int)) + (1 : Int)) (List.replicate ((mxI (↑s.size : Int) (↑t.size : Int)) + (1 : Int)).toNat (0 : Int)) (0 : Int) (1 : Int)).fst.length * (1 : Nat)) (List.drop (0 : Nat) (φ s t ((mxI (↑s.size : Int) (↑t.size : Int)) + (1 : Int)) (List.replicate ((mxI (↑s.size : Int) (↑t.size : Int)) + (1 : Int)).toNat (0 : Int)) (0 : Int) (1 : Int)).fst))))))) else none) else none) else none) else none) := by kernel_rfl
def tRAddM (S : Sg) (args : List AV) : Option (Bool × AV) := match args with | [.val (.string s), .val (.string t)] => some (S.ok s && S.ok t, .val (.string (S.mg (S.vs s + S.vs t)))) | _ => none
theorem ok_size {s : ByteArray} (h : sg0.ok s = true) : s.size ≤ 8796093022208 := of_decide_eq_true h
theorem eRAddM : Entry Try.prog 54 (tRAddM sg0) := by
  refine entry_of (E := ERa sg0 cond_radd phi_radd) (u := 10) (d := 10) ((meets_none _).add eRTrim) (LL_radd_ok LOk.none).ok mixed (by kernel_rfl) (fun args r h => ?_)
  unfold tRAddM at h
  split at h
  · rename_i s t
    simp only [Option.some.injEq, Prod.mk.injEq, Bool.and_eq_true] at h
    obtain ⟨⟨h1, h2⟩, rfl⟩ := h
    have z1 := ok_size h1
    have z2 := ok_size h2
    have e1 : ((max s.size t.size : Nat) : Int) + 1 = ((max s.size t.size + 1 : Nat) : Int) := by omega
    have hp : pre_radd s t ((max s.size t.size + 1 : Nat) : Int) (List.replicate (max s.size t.size + 1) 0) 0 1 := ⟨z1, z2, rfl, by simp, rfl, rfl⟩
    obtain ⟨_, c1, c2⟩ := phi_radd_spec _ _ _ _ _ _ hp
    have hcall := radd_call sg0 cond_radd phi_radd s t
    simp only [mxI_nat, e1, Int.toNat_natCast, List.length_replicate, eq_self, decide_true, Nat.mul_one, Nat.zero_add, List.drop_zero] at hcall
    rw [cond_radd_eq _ _ _ _ _ _ hp] at hcall
    generalize phi_radd s t ((max s.size t.size + 1 : Nat) : Int) (List.replicate (max s.size t.size + 1) 0) 0 1 = q at *
    have e2 : sg0.vs (ofBytes q.1) = sg0.vs s + sg0.vs t := c2
    rw [i64L _ (by omega), dT (show (0 : Int) ≤ ((max s.size t.size + 1 : Nat) : Int) by omega), dT (show ((max s.size t.size + 1 : Nat) : Int) ≤ ((max s.size t.size + 1 : Nat) : Int) by omega), dT (show (1 : Int) * ((max s.size t.size + 1 : Nat) : Int) ≤ 281474976710656 by omega), dT (show ((max s.size t.size + 1 : Nat) : Int) ≤ 9223372036854775807 by omega), dT (show q.1.length ≤ q.1.length by omega), List.take_length, e2] at hcall
    exact hcall
  · cases h
/-! ### subMag -/
abbrev p_rsub : List Bool := [false, true, false, true, true, true]
def sh_rsub (s : ByteArray) (t : ByteArray) (zs : List Int) (c : Int) (i : Int) : List AV := slots 55 [(0, .val (.string s)), (1, .val (.string t)), (5, .sl false 5 0 0 zs.length), (6, .val (.int .i64 c)), (7, .val (.int .i64 i))]
def hp_rsub (s : ByteArray) (t : ByteArray) (zs : List Int) (c : Int) (i : Int) : Hp := [.row (.ints .u8 zs) 5 .live]
theorem body_rsub : subC Try.prog 56 p_rsub = some (.loop (lb 56 p_rsub)) := by kernel_rfl
theorem code_rsub : subC Try.prog 56 (false :: p_rsub) = some (lb 56 p_rsub) := by kernel_rfl
theorem round_rsub  (s : ByteArray) (t : ByteArray) (zs : List Int) (c : Int) (i : Int) : roundA Try.prog EL0 56 [0, 1, 5, 6, 7] (lb 56 p_rsub) (false :: p_rsub) (sh_rsub s t zs c i) (hp_rsub s t zs c i) =
    (bif decide (i ≤ (↑s.size : Int)) then (bif inR IntKind.i64 ((↑s.size : Int) - i) then (bif decide ((0 : Int) ≤ (↑s.size : Int) - i) && decide ((↑s.size : Int) - i < (↑s.size : Int)) then (bif inR IntKind.i64 (byteAt s ((↑s.size : Int) - i).toNat) then (bif inR IntKind.i64 (byteAt s ((↑s.size : Int) - i).toNat - c) then (bif decide (i ≤ (↑t.size : Int)) then (bif inR IntKind.i64 ((↑t.size : Int) - i) then (bif decide ((0 : Int) ≤ (↑t.size : Int) - i) && decide ((↑t.size : Int) - i < (↑t.size : Int)) then (bif inR IntKind.i64 (byteAt t ((↑t.size : Int) - i).toNat) then (bif inR IntKind.i64 (byteAt s ((↑s.size : Int) - i).toNat - c - byteAt t ((↑t.size : Int) - i).toNat) then (bif decide (byteAt s ((↑s.size : Int) - i).toNat - c - byteAt t ((↑t.size : Int) - i).toNat < (0 : Int)) then (bif inR IntKind.i64 (byteAt s ((↑s.size : Int) - i).toNat - c - byteAt t ((↑t.size : Int) - i).toNat + (256 : Int)) then (bif inR IntKind.i64 ((↑s.size : Int) - i) then (bif decide ((0 : Int) ≤ (↑s.size : Int) - i) && decide ((↑s.size : Int) - i < (↑zs.length : Int)) then (bif decide ((0 : Nat) + ((↑s.size : Int) - i).toNat * (1 : Nat) < zs.length) then (bif inR IntKind.i64 (i + (1 : Int)) then some (.normal, slots 55 [(0, (.val (.string s))), (1, (.val (.string t))), (5, (.sl false 5 0 0 zs.length)), (6, (.val (.int .i64 1))), (7, (.val (.int .i64 (i + (1 : Int)))))], [(.row (.ints .u8 (zs.set ((0 : Nat) + ((↑s.size : Int) - i).toNat * (1 : Nat)) (IntKind.u8.wrap (byteAt s ((↑s.size : Int) - i).toNat - c - byteAt t ((↑t.size : Int) - i).toNat + (256 : Int))))) 5 .live)]) else none) else none) else none) else none) else none) else (bif inR IntKind.i64 ((↑s.size : Int) - i) then (bif decide ((0 : Int) ≤ (↑s.size : Int) - i) && decide ((↑s.size : Int) - i < (↑zs.length : Int)) then (bif decide ((0 : Nat) + ((↑s.size : Int) - i).toNat * (1 : Nat) < zs.length) then (bif inR IntKind.i64 (i + (1 : Int)) then some (.normal, slots 55 [(0, (.val (.string s))), (1, (.val (.string t))), (5, (.sl false 5 0 0 zs.length)), (6, (.val (.int .i64 0))), (7, (.val (.int .i64 (i + (1 : Int)))))], [(.row (.ints .u8 (zs.set ((0 : Nat) + ((↑s.size : Int) - i).toNat * (1 : Nat)) (IntKind.u8.wrap (byteAt s ((↑s.size : Int) - i).toNat - c - byteAt t ((↑t.size : Int) - i).toNat)))) 5 .live)]) else none) else none) else none) else none)) else none) else none) else none) else none) else (bif decide (byteAt s ((↑s.size : Int) - i).toNat - c < (0 : Int)) then (bif inR IntKind.i64 (byteAt s ((↑s.size : Int) - i).toNat - c + (256 : Int)) then (bif inR IntKind.i64 ((↑s.size : Int) - i) then (bif decide ((0 : Int) ≤ (↑s.size : Int) - i) && decide ((↑s.size : Int) - i < (↑zs.length : Int)) then (bif decide ((0 : Nat) + ((↑s.size : Int) - i).toNat * (1 : Nat) < zs.length) then (bif inR IntKind.i64 (i + (1 : Int)) then some (.normal, slots 55 [(0, (.val (.string s))), (1, (.val (.string t))), (5, (.sl false 5 0 0 zs.length)), (6, (.val (.int .i64 1))), (7, (.val (.int .i64 (i + (1 : Int)))))], [(.row (.ints .u8 (zs.set ((0 : Nat) + ((↑s.size : Int) - i).toNat * (1 : Nat)) (IntKind.u8.wrap (byteAt s ((↑s.size : Int) - i).toNat - c + (256 : Int))))) 5 .live)]) else none) else none) else none) else none) else none) else (bif inR IntKind.i64 ((↑s.size : Int) - i) then (bif decide ((0 : Int) ≤ (↑s.size : Int) - i) && decide ((↑s.size : Int) - i < (↑zs.length : Int)) then (bif decide ((0 : Nat) + ((↑s.size : Int) - i).toNat * (1 : Nat) < zs.length) then (bif inR IntKind.i64 (i + (1 : Int)) then some (.normal, slots 55 [(0, (.val (.string s))), (1, (.val (.string t))), (5, (.sl false 5 0 0 zs.length)), (6, (.val (.int .i64 0))), (7, (.val (.int .i64 (i + (1 : Int)))))], [(.row (.ints .u8 (zs.set ((0 : Nat) + ((↑s.size : Int) - i).toNat * (1 : Nat)) (IntKind.u8.wrap (byteAt s ((↑s.size : Int) - i).toNat - c)))) 5 .live)]) else none) else none) else none) else none))) else none) else none) else none) else none) else some ((.exit 0), slots 55 [(0, (.val (.string s))), (1, (.val (.string t))), (5, (.sl false 5 0 0 zs.length)), (6, (.val (.int .i64 c))), (7, (.val (.int .i64 i)))], [(.row (.ints .u8 zs) 5 .live)])) := by kernel_rfl
theorem step_rsub {s : ByteArray} {t : ByteArray} {zs : List Int} {c : Int} {i : Int} {e : Ex} {T : List AV} {H : Hp} (h : roundA Try.prog EL0 56 [0, 1, 5, 6, 7] (lb 56 p_rsub) (false :: p_rsub) (sh_rsub s t zs c i) (hp_rsub s t zs c i) = some (e, T, H)) : V.Ends Try.prog false 0 0 (lb 56 p_rsub) (sh_rsub s t zs c i) (hp_rsub s t zs c i) e T H :=
  round_ends (meets_none _) loops_none mixed code_rsub h
def pre_rsub (s t : ByteArray) (zs : List Int) (c i : Int) : Prop := s.size ≤ 8796093022208 ∧ t.size ≤ 8796093022208 ∧ vS t ≤ vS s ∧ zs.length = s.size ∧ c = 0 ∧ i = 1
def post_rsub (s t : ByteArray) (zs : List Int) (c i : Int) (r : List Int × Int × Int) : Prop := r.1.length = s.size ∧ vY r.1 = vS s - vS t
theorem rsub_go (s t : ByteArray) (hs : s.size ≤ 8796093022208) (ht : t.size ≤ 8796093022208) (hle : vS t ≤ vS s) (d : Nat) : ∀ (i c : Nat) (zs : List Int), i + d = s.size → zs.length = s.size → c ≤ 1 →
    Aside0 (vY (zs.drop (s.size - i)) + vS t % 256 ^ i = vS s % 256 ^ i + 256 ^ i * c) →
    ∃ r : List Int × Int × Int, LoopTo Try.prog (lb 56 p_rsub) (sh_rsub s t zs c ((i + 1 : Nat) : Int)) (hp_rsub s t zs c ((i + 1 : Nat) : Int)) (.exit 0) (sh_rsub s t r.1 r.2.1 r.2.2) (hp_rsub s t r.1 r.2.1 r.2.2) ∧ r.1.length = s.size ∧ vY r.1 = vS s - vS t := by
  induction d with
  | zero =>
    intro i c zs hi hl hc hv
    have hi' : i = s.size := by omega
    refine ⟨(zs, (c : Int), ((i + 1 : Nat) : Int)), .last (step_rsub ?_) (by intro h; cases h), hl, ?_⟩
    · rw [round_rsub, dF (show ¬ (((i + 1 : Nat) : Int) ≤ s.size) by omega)]
      rfl
    · have hv := hv.out
      have h1 := vS_lt s
      rw [hi', Nat.sub_self, List.drop_zero, Nat.mod_eq_of_lt h1, Nat.mod_eq_of_lt (show vS t < 256 ^ s.size by omega)] at hv
      have h2 : vY zs < 256 ^ s.size := by
        have := vB_lt (zs.map fun z => UInt8.ofNat z.toNat)
        rw [List.length_map, hl] at this
        exact this
      show vY zs = _
      rcases (show c = 0 ∨ c = 1 by omega) with h0 | h0
      · rw [h0] at hv; omega
      · rw [h0] at hv; omega
  | succ d ih =>
    intro i c zs hi hl hc HV
    have hin : i < s.size := by omega
    have hj : s.size - (i + 1) < zs.length := by omega
    have go : ∀ x y z b : Nat, x < 256 → y < 256 → x = vS s / 256 ^ i % 256 → y = vS t / 256 ^ i % 256 → z < 256 → b ≤ 1 → z + y + c = x + 256 * b →
        roundA Try.prog EL0 56 [0, 1, 5, 6, 7] (lb 56 p_rsub) (false :: p_rsub) (sh_rsub s t zs c ((i + 1 : Nat) : Int)) (hp_rsub s t zs c ((i + 1 : Nat) : Int)) = some (.normal, sh_rsub s t (zs.set (s.size - (i + 1)) (z : Nat)) (b : Nat) ((i + 1 + 1 : Nat) : Int), hp_rsub s t (zs.set (s.size - (i + 1)) (z : Nat)) (b : Nat) ((i + 1 + 1 : Nat) : Int)) →
        ∃ r : List Int × Int × Int, LoopTo Try.prog (lb 56 p_rsub) (sh_rsub s t zs c ((i + 1 : Nat) : Int)) (hp_rsub s t zs c ((i + 1 : Nat) : Int)) (.exit 0) (sh_rsub s t r.1 r.2.1 r.2.2) (hp_rsub s t r.1 r.2.1 r.2.2) ∧ r.1.length = s.size ∧ vY r.1 = vS s - vS t := by
      intro x y z b hx hy ex ey hz hb hzb hr
      obtain ⟨r, h1, h2⟩ := ih (i + 1) b (zs.set (s.size - (i + 1)) (z : Nat)) (by omega) (by rw [List.length_set]; exact hl) hb (by
        have hv := HV.out
        constructor
        rw [vY_set _ _ _ hj hz, hl, show s.size - (s.size - (i + 1)) - 1 = i by omega, show s.size - (i + 1) + 1 = s.size - i by omega, mod_succ, mod_succ, ← ex, ← ey, Nat.pow_succ]
        have h3 := congrArg (256 ^ i * ·) hzb
        simp only [Nat.mul_add] at h3
        rw [← Nat.mul_assoc] at h3
        rw [Nat.mul_comm z]
        omega)
      exact ⟨r, .more (step_rsub hr) h1, h2⟩
    have hr := round_rsub s t zs c ((i + 1 : Nat) : Int)
    have es : (s.size : Int) - ((i + 1 : Nat) : Int) = ((s.size - (i + 1) : Nat) : Int) := by omega
    have et : i < t.size → (t.size : Int) - ((i + 1 : Nat) : Int) = ((t.size - (i + 1) : Nat) : Int) := fun h => by omega
    have e2 : ((i + 1 : Nat) : Int) + 1 = ((i + 1 + 1 : Nat) : Int) := by omega
    have hdx := Nat.mod_lt (vS s / 256 ^ i) (show 0 < 256 by decide)
    have hdy := Nat.mod_lt (vS t / 256 ^ i) (show 0 < 256 by decide)
    have dx := digit_at s i hin
    have dy := digit_at t i
    have ny := no_digit t i
    generalize vS s / 256 ^ i % 256 = x at *
    generalize vS t / 256 ^ i % 256 = y at *
    have q1 : inR .i64 ((s.size - (i + 1) : Nat) : Int) = true := i64L _ (by omega)
    have q2 : inR .i64 ((i + 1 + 1 : Nat) : Int) = true := i64L _ (by omega)
    rw [es, e2, q1, q2, dT (show ((i + 1 : Nat) : Int) ≤ s.size by omega), dT (show (0 : Int) ≤ ((s.size - (i + 1) : Nat) : Int) by omega), dT (show ((s.size - (i + 1) : Nat) : Int) < (zs.length : Int) by omega), dT (show ((s.size - (i + 1) : Nat) : Int) < (s.size : Int) by omega), Int.toNat_natCast, Nat.zero_add, Nat.mul_one, dT hj, dx, i64L x (by omega), i64T (show -9223372036854775808 ≤ (x : Int) - c ∧ (x : Int) - c ≤ 9223372036854775807 by omega)] at hr
    by_cases hti : i < t.size
    · rw [dT (show ((i + 1 : Nat) : Int) ≤ t.size by omega), et hti, i64L (t.size - (i + 1)) (by omega), dT (show (0 : Int) ≤ ((t.size - (i + 1) : Nat) : Int) by omega), dT (show ((t.size - (i + 1) : Nat) : Int) < (t.size : Int) by omega), Int.toNat_natCast, dy hti, i64L y (by omega), i64T (show -9223372036854775808 ≤ (x : Int) - c - y ∧ (x : Int) - c - y ≤ 9223372036854775807 by omega)] at hr
      by_cases hlt : (x : Int) - c - y < 0
      · have e3 : (x : Int) - c - y + 256 = ((x + 256 - c - y : Nat) : Int) := by omega
        rw [dT hlt, e3, i64L _ (by omega), u8w, Nat.mod_eq_of_lt (by omega)] at hr
        refine go x y (x + 256 - c - y) 1 hdx hdy rfl rfl (by omega) (by omega) (by omega) ?_
        rw [hr]
        unfold sh_rsub hp_rsub
        rw [List.length_set]
        rfl
      · have e3 : (x : Int) - c - y = ((x - c - y : Nat) : Int) := by omega
        rw [dF hlt, e3, u8w, Nat.mod_eq_of_lt (by omega)] at hr
        refine go x y (x - c - y) 0 hdx hdy rfl rfl (by omega) (by omega) (by omega) ?_
        rw [hr]
        unfold sh_rsub hp_rsub
        rw [List.length_set]
        rfl
    · have hy0 := ny (by omega)
      rw [dF (show ¬ ((i + 1 : Nat) : Int) ≤ t.size by omega)] at hr
      by_cases hlt : (x : Int) - c < 0
      · have e3 : (x : Int) - c + 256 = ((x + 256 - c : Nat) : Int) := by omega
        rw [dT hlt, e3, i64L _ (by omega), u8w, Nat.mod_eq_of_lt (by omega)] at hr
        refine go x y (x + 256 - c) 1 hdx hdy rfl rfl (by omega) (by omega) (by omega) ?_
        rw [hr]
        unfold sh_rsub hp_rsub
        rw [List.length_set]
        rfl
      · have e3 : (x : Int) - c = ((x - c : Nat) : Int) := by omega
        rw [dF hlt, e3, u8w, Nat.mod_eq_of_lt (by omega)] at hr
        refine go x y (x - c) 0 hdx hdy rfl rfl (by omega) (by omega) (by omega) ?_
        rw [hr]
        unfold sh_rsub hp_rsub
        rw [List.length_set]
        rfl
theorem loop_rsub (s t : ByteArray) (zs : List Int) (c i : Int) (h : pre_rsub s t zs c i) : ∃ r : List Int × Int × Int, LoopTo Try.prog (lb 56 p_rsub) (sh_rsub s t zs c i) (hp_rsub s t zs c i) (.exit 0) (sh_rsub s t r.1 r.2.1 r.2.2) (hp_rsub s t r.1 r.2.1 r.2.2) ∧ post_rsub s t zs c i r := by
  obtain ⟨h1, h2, h3, h4, rfl, rfl⟩ := h
  obtain ⟨r, k1, k2, k3⟩ := rsub_go s t h1 h2 h3 s.size 0 0 zs (by omega) h4 (by omega) ⟨by rw [Nat.sub_zero, List.drop_of_length_le (by omega), vY_nil]; simp [Nat.mod_one]⟩
  exact ⟨r, k1, k2, k3⟩
def told_rsub (κ : ByteArray → ByteArray → List Int → Int → Int → Bool) (φ : ByteArray → ByteArray → List Int → Int → Int → List Int × Int × Int) (T : List AV) (H : Hp) : Option (Bool × Ex × List AV × Hp) :=
  match lget T 0, lget T 1, lget T 5, lget T 6, lget T 7, H with
  | .val (.string s), .val (.string t), .sl false 5 0 0 m_zs, .val (.int .i64 c), .val (.int .i64 i), [.row (.ints .u8 zs) 5 .live] => bif T.length == 55 then some (decide (m_zs = zs.length) && κ s t zs c i, .exit 0, sh_rsub s t ((φ s t zs c i).1) ((φ s t zs c i).2.1) ((φ s t zs c i).2.2), hp_rsub s t ((φ s t zs c i).1) ((φ s t zs c i).2.1) ((φ s t zs c i).2.2)) else none
  | _, _, _, _, _, _ => none
abbrev KT_rsub : Type := ByteArray → ByteArray → List Int → Int → Int → Bool
abbrev FT_rsub : Type := ByteArray → ByteArray → List Int → Int → Int → List Int × Int × Int
def LL_rsub (κ : KT_rsub) (φ : FT_rsub) (L : LTab) : LTab := addLn 0 56 p_rsub [0, 1, 5, 6, 7] (told_rsub κ φ) L
def phi_rsub (s : ByteArray) (t : ByteArray) (zs : List Int) (c : Int) (i : Int) : List Int × Int × Int := Classical.epsilon fun ρ => LoopTo Try.prog (lb 56 p_rsub) (sh_rsub s t zs c i) (hp_rsub s t zs c i) (.exit 0) (sh_rsub s t (ρ.1) (ρ.2.1) (ρ.2.2)) (hp_rsub s t (ρ.1) (ρ.2.1) (ρ.2.2)) ∧ post_rsub s t zs c i ρ
theorem phi_rsub_spec (s : ByteArray) (t : ByteArray) (zs : List Int) (c : Int) (i : Int) (h : pre_rsub s t zs c i) : LoopTo Try.prog (lb 56 p_rsub) (sh_rsub s t zs c i) (hp_rsub s t zs c i) (.exit 0) (sh_rsub s t ((phi_rsub s t zs c i).1) ((phi_rsub s t zs c i).2.1) ((phi_rsub s t zs c i).2.2)) (hp_rsub s t ((phi_rsub s t zs c i).1) ((phi_rsub s t zs c i).2.1) ((phi_rsub s t zs c i).2.2)) ∧ post_rsub s t zs c i (phi_rsub s t zs c i) := Classical.epsilon_spec (loop_rsub s t zs c i h)
def cond_rsub (s : ByteArray) (t : ByteArray) (zs : List Int) (c : Int) (i : Int) : Bool := @decide (pre_rsub s t zs c i) (Classical.propDecidable _)
theorem cond_rsub_eq (s : ByteArray) (t : ByteArray) (zs : List Int) (c : Int) (i : Int) (h : pre_rsub s t zs c i) : cond_rsub s t zs c i = true := @decide_eq_true _ (Classical.propDecidable _) h
theorem told_rsub_ok (T : List AV) (H : Hp) (e : Ex) (T1 : List AV) (H1 : Hp) (h : told_rsub cond_rsub phi_rsub T H = some (true, e, T1, H1)) : V.Ends Try.prog false 0 0 (.loop (lb 56 p_rsub)) T H e T1 H1 := by
  unfold told_rsub at h
  split at h
  · rename_i s t m_zs c i zs h0 h1 h5 h6 h7
    rw [Bool.cond_eq_ite] at h
    split at h
    · rename_i hlen
      rw [beq_iff_eq] at hlen
      simp only [Option.some.injEq, Prod.mk.injEq, Bool.and_eq_true, decide_eq_true_eq] at h
      obtain ⟨⟨k1, k2⟩, rfl, rfl, rfl⟩ := h
      have kc := @of_decide_eq_true _ (Classical.propDecidable _) k2
      refine Ends.pre (phi_rsub_spec s t zs c i kc).1.ends (fun α B w D ys hr => slots_rel hlen (fun p hp y hy => ?_) hr)
      simp only [List.mem_cons, List.not_mem_nil, or_false] at hp
      rcases hp with rfl | rfl | rfl | rfl | rfl
      · rw [h0] at hy; exact hy
      · rw [h1] at hy; exact hy
      · rw [h5] at hy; rw [← k1]; exact hy
      · rw [h6] at hy; exact hy
      · rw [h7] at hy; exact hy
    · cases h
  · cases h
theorem LL_rsub_ok {L : LTab} (h : LOk Try.prog L) : LOk Try.prog (LL_rsub cond_rsub phi_rsub L) := h.add2n body_rsub told_rsub_ok
def ERu (S : Sg) (κ : KT_rsub) (φ : FT_rsub) : Env := ⟨addC 65 (tStrip S) noC, Kall, LL_rsub κ φ noL⟩
theorem rsub_call (S : Sg) (κ : KT_rsub) (φ : FT_rsub) (s t : ByteArray) : callA Try.prog (ERu S κ φ) 10 10 56 [.val (.string s), .val (.string t)] =
    (bif decide ((↑s.size : Int) ≤ (↑s.size : Int)) && decide ((1 : Int) * (↑s.size : Int) ≤ (281474976710656 : Int)) && decide ((↑s.size : Int) ≤ (9223372036854775807 : Int)) then (bif decide ((↑s.size : Int).toNat = (List.replicate (↑s.size : Int).toNat (0 : Int)).length) && κ s t (List.replicate (↑s.size : Int).toNat (0 : Int)) (0 : Int) (1 : Int) then (bif decide ((0 : Nat) + (φ s t (List.replicate (↑s.size : Int).toNat (0 : Int)) (0 : Int) (1 : Int)).fst.length * (1 : Nat) ≤ (φ s t (List.replicate (↑s.size : Int).toNat (0 : Int)) (0 : Int) (1 : Int)).fst.length) then some (.val (.string (S.mg (S.vs (ofBytes (List.take ((φ s t (List.replicate (↑s.size : Int).toNat (0 : Int)) (0 : Int) (1 : Int)).fst.length * (1 : Nat)) (List.drop (0 : Nat) (φ s t (List.replicate (↑s.size : Int).toNat (0 : Int)) (0 : Int) (1 : Int)).fst))))))) else none) else none) else none) := by kernel_rfl
def tRSubM (S : Sg) (args : List AV) : Option (Bool × AV) := match args with | [.val (.string s), .val (.string t)] => some (S.ok s && S.ok t && decide (S.vs t ≤ S.vs s), .val (.string (S.mg (S.vs s - S.vs t)))) | _ => none
theorem eRSubM : Entry Try.prog 56 (tRSubM sg0) := by
  refine entry_of (E := ERu sg0 cond_rsub phi_rsub) (u := 10) (d := 10) ((meets_none _).add eRTrim) (LL_rsub_ok LOk.none).ok mixed (by kernel_rfl) (fun args r h => ?_)
  unfold tRSubM at h
  split at h
  · rename_i s t
    simp only [Option.some.injEq, Prod.mk.injEq, Bool.and_eq_true, decide_eq_true_eq] at h
    obtain ⟨⟨⟨h1, h2⟩, h3⟩, rfl⟩ := h
    have z1 := ok_size h1
    have z2 := ok_size h2
    have hp : pre_rsub s t (List.replicate s.size 0) 0 1 := ⟨z1, z2, h3, by simp, rfl, rfl⟩
    obtain ⟨_, c1, c2⟩ := phi_rsub_spec _ _ _ _ _ hp
    have hcall := rsub_call sg0 cond_rsub phi_rsub s t
    simp only [Int.toNat_natCast, List.length_replicate, eq_self, decide_true, Nat.mul_one, Nat.zero_add, List.drop_zero] at hcall
    rw [cond_rsub_eq _ _ _ _ _ hp] at hcall
    generalize phi_rsub s t (List.replicate s.size 0) 0 1 = q at *
    have e2 : sg0.vs (ofBytes q.1) = sg0.vs s - sg0.vs t := c2
    rw [dT (show (s.size : Int) ≤ (s.size : Int) by omega), dT (show (1 : Int) * (s.size : Int) ≤ 281474976710656 by omega), dT (show (s.size : Int) ≤ 9223372036854775807 by omega), dT (show q.1.length ≤ q.1.length by omega), List.take_length, e2] at hcall
    exact hcall
  · cases h
end
end Go.Proofs.Ytlpfnbopmigefaa.L
