/- Little laws that the laws' proofs share. -/
import Derived.Test.YtlpfnbopmigefaaZL
import Derived.Test.YtlpfnbopmigefaaZA3
set_option linter.unusedVariables false
set_option linter.unusedSimpArgs false

/- Little laws that the laws' proofs share. -/
set_option linter.unusedVariables false
namespace Go.Proofs.Ytlpfnbopmigefaa.L
open Go Go.V Go.RowKit Go.Proofs.Ytlpfnbopmigefaa.Sp
open Go.Proofs (Try.prog)
noncomputable section
theorem chk_ms (z : Int) : sg0.chk (sg0.ng z) (sg0.ms z) = 0 := by
  show L.chk (enc z).1 (enc z).2 = 0
  unfold L.chk
  have e1 : magOf (vS (enc z).2) = (enc z).2 := by
    show magOf (vS (magOf z.natAbs)) = magOf z.natAbs
    rw [vS_magOf]
  rw [if_pos e1, if_neg]
  rintro ⟨h1, h2⟩
  unfold enc at h1
  simp only [decide_eq_true_eq] at h1
  have h3 := (toList_nil _).1 h2
  have h3 : (magOf z.natAbs).data.toList = [] := h3
  rw [magOf_data, toB_nil_iff] at h3
  omega
theorem strEq_self (s : ByteArray) : strEq s s = true := by unfold strEq; exact beq_self_eq_true _
theorem eqI {x y : Int} (h : x = y) : (sg0.ng x == sg0.ng y && (strEq (sg0.ms x) (sg0.ms y) && true)) = true := by
  rw [h, beq_self_eq_true, strEq_self]; rfl
theorem ms_zero : sg0.ms 0 = ByteArray.mk #[] := by
  show magOf 0 = _
  unfold magOf
  rw [toB_zero]
theorem eqZ {x : Int} (h : x = 0) : (sg0.ng x == false && (strEq (sg0.ms x) (ByteArray.mk #[]) && true)) = true := by
  rw [h, ms_zero, strEq_self]; rfl
theorem val_nil : sg0.val false (ByteArray.mk #[]) = 0 := rfl
theorem ok_nil : sg0.ok (ByteArray.mk #[]) = true := by
  exact decide_eq_true (show (ByteArray.mk #[]).size ≤ 8796093022208 by decide)
theorem ok_small {s : ByteArray} (h : s.size ≤ 60) : sg0.ok s = true := decide_eq_true (by omega)
theorem cmz_self {x y : Int} (h : x = y) : sg0.cmz x y = 0 := by
  show cmpZ x y = 0
  unfold cmpZ
  rw [if_neg (by omega), if_neg (by omega)]
theorem arg_int (B : Nat → Prop) (w : World) (b : Bool) (s : ByteArray) : (AV.agg [.val (.bool b), .val (.string s)]).Rel Try.prog NoA B w NoD (.agg #[.bool b, .string s]) := ⟨_, rfl, _, _, rfl, rfl, _, _, rfl, rfl, rfl⟩
/-- What the executor gives, as a walk: for a law. -/
theorem law_walk {E : Env} {g : FuncId} {args : List AV} {xs : Array Value} (hC : Meets Try.prog E.C) (hL : LoopsOk Try.prog E) (hok : okFn Try.prog g = true) {u d : Nat} (h : callA Try.prog E u d g args = some (.val (.bool true))) (W : World) (ha : RelL Try.prog NoA (fun _ => False) W args NoD xs.toList) :
    Calls Try.prog g xs W fun e w' => e = .returned (.bool true) ∧ Below W.heap.size W w' := by
  refine (callA_sound hC hL mixed hok h (fun _ => False) W xs (fun _ h => h.elim) ha).mono ?_
  rintro e w' ⟨y, rfl, h2, h3⟩
  have h3 : y = .bool true := h3
  exact ⟨by rw [h3], h2⟩
end
end Go.Proofs.Ytlpfnbopmigefaa.L

/- Of the reference: trim, Canonical, small, told. -/
set_option linter.unusedVariables false
set_option linter.unusedSimpArgs false
namespace Go.Proofs.Ytlpfnbopmigefaa.L
open Go Go.V Go.RowKit Go.Proofs.Ytlpfnbopmigefaa.Sp Go.Proofs.Ytlpfnbopmigefaa.F Go.Proofs.YtlpfnbopmigefaaW.PrintWords
open Go.Proofs (Try.prog)
noncomputable section
/-! ### trim -/
abbrev p_rtrim : List Bool := [false, false, true]
def sh_rtrim (s : ByteArray) : List AV := slots 14 [(0, .val (.string s))]
def hp_rtrim (s : ByteArray) : Hp := []
theorem body_rtrim : subC Try.prog 65 p_rtrim = some (.loop (lb 65 p_rtrim)) := by kernel_rfl
theorem code_rtrim : subC Try.prog 65 (false :: p_rtrim) = some (lb 65 p_rtrim) := by kernel_rfl
theorem round_rtrim  (s : ByteArray) : roundA Try.prog EL0 65 [0] (lb 65 p_rtrim) (false :: p_rtrim) (sh_rtrim s) (hp_rtrim s) =
    (bif decide ((0 : Int) < (↑s.size : Int)) then (bif decide ((0 : Int) < (↑s.size : Int)) then (bif decide (byteAt s (0 : Nat) = (0 : Int)) then (bif decide ((1 : Int) ≤ (↑s.size : Int)) then some (.normal, slots 14 [(0, (.val (.string (strSub s (1 : Nat) s.size))))], []) else none) else some ((.exit 0), slots 14 [(0, (.val (.string s)))], [])) else none) else some ((.exit 0), slots 14 [(0, (.val (.string s)))], [])) := by kernel_rfl
theorem step_rtrim {s : ByteArray} {e : Ex} {T : List AV} {H : Hp} (h : roundA Try.prog EL0 65 [0] (lb 65 p_rtrim) (false :: p_rtrim) (sh_rtrim s) (hp_rtrim s) = some (e, T, H)) : V.Ends Try.prog false 0 0 (lb 65 p_rtrim) (sh_rtrim s) (hp_rtrim s) e T H :=
  round_ends (meets_none _) loops_none mixed code_rtrim h
def pre_rtrim (s : ByteArray) : Prop := True
def post_rtrim (s : ByteArray) (r : ByteArray) : Prop := r = magOf (vS s)
theorem byteAt_cons {s : ByteArray} {c : UInt8} {l : List UInt8} (h : s.data.toList = c :: l) : byteAt s 0 = (c.toNat : Int) := by unfold byteAt; rw [h]; rfl
theorem strSub_cons {s : ByteArray} {c : UInt8} {l : List UInt8} (h : s.data.toList = c :: l) : (strSub s 1 s.size).data.toList = l := by
  have hs : s.size = l.length + 1 := by
    have : s.size = s.data.toList.length := by rw [Array.length_toList]; rfl
    rw [this, h]; rfl
  show ((s.data.toList.drop 1).take (s.size - 1)) = l
  rw [h, hs]
  simp
theorem size_list (s : ByteArray) : s.size = s.data.toList.length := by rw [Array.length_toList]; rfl
theorem rtrim_go : ∀ (n : Nat) (s : ByteArray), s.size = n → LoopTo Try.prog (lb 65 p_rtrim) (sh_rtrim s) (hp_rtrim s) (.exit 0) (sh_rtrim (magOf (vS s))) (hp_rtrim (magOf (vS s)))
  | 0, s, hn => by
    have hd : s.data.toList = [] := List.length_eq_zero_iff.1 (by rw [← size_list]; exact hn)
    have e : magOf (vS s) = s := magOf_of_lead s (by rw [hd]; exact True.intro)
    rw [e]
    refine .last (step_rtrim ?_) (by intro h; cases h)
    rw [round_rtrim, dF (show ¬ (0 : Int) < s.size by omega)]
    rfl
  | n + 1, s, hn => by
    obtain ⟨c, l, hd⟩ : ∃ c l, s.data.toList = c :: l := by
      cases h : s.data.toList with
      | nil => rw [size_list, h] at hn; simp at hn
      | cons c l => exact ⟨c, l, rfl⟩
    have hr := round_rtrim s
    have hb := byteAt_cons hd
    rw [dT (show (0 : Int) < s.size by omega), hb] at hr
    by_cases hc : c = 0
    · have hv : vS s = vS (strSub s 1 s.size) := by
        unfold vS
        rw [strSub_cons hd, hd, vB_cons, hc]
        simp
      rw [hv]
      have hlen : (strSub s 1 s.size).size = n := by
        rw [size_list, strSub_cons hd]
        rw [size_list, hd] at hn
        simpa using hn
      refine .more (step_rtrim ?_) (rtrim_go n _ hlen)
      rw [hr, hc, dT (show (((0 : UInt8).toNat : Nat) : Int) = 0 from rfl), dT (show (1 : Int) ≤ s.size by omega)]
      rfl
    · have e : magOf (vS s) = s := magOf_of_lead s (by rw [hd]; exact hc)
      rw [e]
      refine .last (step_rtrim ?_) (by intro h; cases h)
      have hc2 : ¬ ((c.toNat : Nat) : Int) = 0 := fun h => hc (UInt8.toNat_inj.1 (by simpa using h))
      rw [hr, dF hc2]
      rfl
theorem loop_rtrim (s : ByteArray) (h : pre_rtrim s) : ∃ r : ByteArray, LoopTo Try.prog (lb 65 p_rtrim) (sh_rtrim s) (hp_rtrim s) (.exit 0) (sh_rtrim r) (hp_rtrim r) ∧ post_rtrim s r := ⟨_, rtrim_go s.size s rfl, rfl⟩
def told_rtrim (κ : ByteArray → Bool) (φ : ByteArray → ByteArray) (T : List AV) (H : Hp) : Option (Bool × Ex × List AV × Hp) :=
  match lget T 0, H with
  | .val (.string s), [] => bif T.length == 14 then some (κ s, .exit 0, sh_rtrim ((φ s)), hp_rtrim ((φ s))) else none
  | _, _ => none
abbrev KT_rtrim : Type := ByteArray → Bool
abbrev FT_rtrim : Type := ByteArray → ByteArray
def LL_rtrim (κ : KT_rtrim) (φ : FT_rtrim) (L : LTab) : LTab := addLn 0 65 p_rtrim [0] (told_rtrim κ φ) L
def phi_rtrim (s : ByteArray) : ByteArray := Classical.epsilon fun ρ => LoopTo Try.prog (lb 65 p_rtrim) (sh_rtrim s) (hp_rtrim s) (.exit 0) (sh_rtrim (ρ)) (hp_rtrim (ρ)) ∧ post_rtrim s ρ
theorem phi_rtrim_spec (s : ByteArray) (h : pre_rtrim s) : LoopTo Try.prog (lb 65 p_rtrim) (sh_rtrim s) (hp_rtrim s) (.exit 0) (sh_rtrim ((phi_rtrim s))) (hp_rtrim ((phi_rtrim s))) ∧ post_rtrim s (phi_rtrim s) := Classical.epsilon_spec (loop_rtrim s h)
def cond_rtrim (s : ByteArray) : Bool := @decide (pre_rtrim s) (Classical.propDecidable _)
theorem cond_rtrim_eq (s : ByteArray) (h : pre_rtrim s) : cond_rtrim s = true := @decide_eq_true _ (Classical.propDecidable _) h
theorem told_rtrim_ok (T : List AV) (H : Hp) (e : Ex) (T1 : List AV) (H1 : Hp) (h : told_rtrim cond_rtrim phi_rtrim T H = some (true, e, T1, H1)) : V.Ends Try.prog false 0 0 (.loop (lb 65 p_rtrim)) T H e T1 H1 := by
  unfold told_rtrim at h
  split at h
  · rename_i s h0
    rw [Bool.cond_eq_ite] at h
    split at h
    · rename_i hlen
      rw [beq_iff_eq] at hlen
      simp only [Option.some.injEq, Prod.mk.injEq, Bool.and_eq_true, decide_eq_true_eq] at h
      obtain ⟨k1, rfl, rfl, rfl⟩ := h
      have kc := @of_decide_eq_true _ (Classical.propDecidable _) k1
      refine Ends.pre (phi_rtrim_spec s kc).1.ends (fun α B w D ys hr => slots_rel hlen (fun p hp y hy => ?_) hr)
      simp only [List.mem_cons, List.not_mem_nil, or_false] at hp
      subst hp
      · rw [h0] at hy; exact hy
    · cases h
  · cases h
theorem LL_rtrim_ok {L : LTab} (h : LOk Try.prog L) : LOk Try.prog (LL_rtrim cond_rtrim phi_rtrim L) := h.add2n body_rtrim told_rtrim_ok
def ERt (κ : KT_rtrim) (φ : FT_rtrim) : Env := ⟨noC, Kall, LL_rtrim κ φ noL⟩
theorem rtrim_call (κ : KT_rtrim) (φ : FT_rtrim) (s : ByteArray) : callA Try.prog (ERt κ φ) 10 10 65 [.val (.string s)] =
    (bif κ s then some (.val (.string (φ s))) else none) := by kernel_rfl
theorem eRTrim : Entry Try.prog 65 (tStrip sg0) := by
  refine entry_of (E := ERt cond_rtrim phi_rtrim) (u := 10) (d := 10) (meets_none _) (LL_rtrim_ok LOk.none).ok mixed (by kernel_rfl) (fun args r h => ?_)
  unfold tStrip at h
  split at h
  · rename_i s
    cases h
    obtain ⟨_, h2⟩ := phi_rtrim_spec s True.intro
    have h2 : phi_rtrim s = magOf (vS s) := h2
    rw [rtrim_call, cond_rtrim_eq _ True.intro, h2]
    rfl
  · cases h
/-! ### Canonical -/
def ECa (S : Sg) : Env := ⟨addC 65 (tStrip S) noC, Kall, noL⟩
theorem canon_call (S : Sg) (b : Bool) (s : ByteArray) : callA Try.prog (ECa S) 10 10 52 [.agg [.val (.bool b), .val (.string s)]] =
    (bif decide ((0 : Int) < (↑s.size : Int)) then (bif decide ((0 : Int) < (↑s.size : Int)) then (bif !decide (byteAt s (0 : Nat) = (0 : Int)) then some (.agg [(.val (.bool b)), (.val (.string s))]) else (bif b then some (.agg [(.val (.bool (!strEq (S.mg (S.vs s)) (ByteArray.mk #[])))), (.val (.string (S.mg (S.vs s))))]) else some (.agg [(.val (.bool false)), (.val (.string (S.mg (S.vs s))))]))) else none) else (bif b then some (.agg [(.val (.bool (!strEq (S.mg (S.vs s)) (ByteArray.mk #[])))), (.val (.string (S.mg (S.vs s))))]) else some (.agg [(.val (.bool false)), (.val (.string (S.mg (S.vs s))))]))) := by kernel_rfl
def tCanon (S : Sg) (args : List AV) : Option (Bool × AV) := match args with | [.agg [.val (.bool b), .val (.string s)]] => some (true, S.int (S.val b s)) | _ => none
theorem ng_eq (z : Int) : sg0.ng z = decide (z < 0) := by
  rw [Bool.eq_iff_iff]
  show (enc z).1 = true ↔ _
  unfold enc
  simp only [decide_eq_true_eq]
theorem agg_val (b : Bool) (s : ByteArray) (hl : Lead s.data.toList) (hb : b = true → s.data.toList ≠ []) : AV.agg [.val (.bool b), .val (.string s)] = sg0.int (sg0.val b s) := by
  have e1 : sg0.ms (sg0.val b s) = s := by
    show magOf (sg0.val b s).natAbs = s
    rw [← vs_val]
    exact magOf_of_lead s hl
  have e2 : sg0.ng (sg0.val b s) = b := by
    rw [ng_eq]
    have hv : sg0.val b s = if b = true then -(vS s : Int) else (vS s : Int) := rfl
    cases b with
    | true =>
      have hp : 0 < vS s := vB_pos_of_lead hl (hb rfl)
      rw [hv, if_pos rfl, decide_eq_true_eq]
      omega
    | false =>
      rw [hv, if_neg (by decide), decide_eq_false_iff_not]
      omega
  unfold Sg.int
  rw [e1, e2]
theorem eCanon : Entry Try.prog 52 (tCanon sg0) := by
  refine entry_of (E := ECa sg0) (u := 10) (d := 10) ((meets_none _).add eRTrim) loops_none mixed (by kernel_rfl) (fun args r h => ?_)
  unfold tCanon at h
  split at h
  · rename_i b s
    cases h
    rw [canon_call]
    have hm : strEq (sg0.mg (sg0.vs s)) (ByteArray.mk #[]) = decide (sg0.vs s = 0) := magOf_nil (vS s)
    have hend : ∀ b : Bool, AV.agg [.val (.bool (bif b then !decide (sg0.vs s = 0) else false)), .val (.string (sg0.mg (sg0.vs s)))] = sg0.int (sg0.val b s) := by
      intro b
      have h1 : AV.agg [.val (.bool (sg0.ng (sg0.val b s))), .val (.string (sg0.ms (sg0.val b s)))] = sg0.int (sg0.val b s) := rfl
      rw [← h1]
      have e1 : sg0.ms (sg0.val b s) = sg0.mg (sg0.vs s) := by show magOf (sg0.val b s).natAbs = _; rw [← vs_val]; rfl
      have e2 : sg0.ng (sg0.val b s) = (bif b then !decide (sg0.vs s = 0) else false) := by
        have hv : sg0.val b s = if b = true then -(sg0.vs s : Int) else (sg0.vs s : Int) := rfl
        rw [ng_eq, hv]
        cases b
        · rw [if_neg (by decide)]
          exact decide_eq_false (by omega)
        · rw [if_pos rfl]
          by_cases h : sg0.vs s = 0
          · rw [decide_eq_true h]; exact decide_eq_false (by omega)
          · rw [decide_eq_false h]; exact decide_eq_true (by omega)
      rw [e1, e2]
    by_cases h0 : (0 : Int) < s.size
    · obtain ⟨c, l, hd⟩ : ∃ c l, s.data.toList = c :: l := by
        cases h : s.data.toList with
        | nil => rw [size_list, h] at h0; simp at h0
        | cons c l => exact ⟨c, l, rfl⟩
      have hb := byteAt_cons hd
      rw [dT h0]
      by_cases hc : c = 0
      · rw [hb, hc, dT (show (((0 : UInt8).toNat : Nat) : Int) = 0 from rfl)]
        cases b
        · exact congrArg some (hend false)
        · have := hend true
          rw [← hm] at this
          exact congrArg some this
      · have hc2 : ¬ ((c.toNat : Nat) : Int) = 0 := fun h => hc (UInt8.toNat_inj.1 (by simpa using h))
        rw [hb, dF hc2]
        exact congrArg some (agg_val b s (by rw [hd]; exact hc) (fun _ => by rw [hd]; simp))
    · rw [dF h0]
      cases b
      · exact congrArg some (hend false)
      · have := hend true
        rw [← hm] at this
        exact congrArg some this
  · cases h
end
end Go.Proofs.Ytlpfnbopmigefaa.L
