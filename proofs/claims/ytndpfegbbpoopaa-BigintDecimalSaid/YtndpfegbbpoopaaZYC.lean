import Derived.Test.YtndpfegbbpoopaaZYB
set_option linter.unusedVariables false
set_option linter.unusedSimpArgs false
namespace Go.Proofs.Ytndpfegbbpoopaa.L
open Go Go.V Go.RowKit Go.Proofs.Ytndpfegbbpoopaa.Sp Go.Proofs.Ytndpfegbbpoopaa.F
open Go.Proofs (Try.prog)
noncomputable section
def sgnT (s : ByteArray) : Bool := decide (0 < s.size) && strEq (strSub s 0 1) (ByteArray.mk #[45])
def dgsT (s : ByteArray) : ByteArray := bif sgnT s then strSub s 1 s.size else s
def goodT (s : ByteArray) : Prop := 0 < (dgsT s).size ∧ (∀ l, l < (dgsT s).size → okd (dgsT s) l) ∧ ¬ (byteAt (dgsT s) 0 = 48 ∧ (1 < (dgsT s).size ∨ sgnT s = true))
noncomputable def pkT (s : ByteArray) : Int := if 65536 < s.size then 4 else @ite _ (goodT s) (Classical.propDecidable _) 0 3
noncomputable def pvT (s : ByteArray) : Int := @ite _ (s.size ≤ 65536 ∧ goodT s) (Classical.propDecidable _) (sg0.sg (sgnT s) (vT (dgsT s) (dgsT s).size)) 0
theorem pkT_lim {s : ByteArray} (h : 65536 < s.size) : pkT s = 4 := if_pos h
theorem pkT_good {s : ByteArray} (h : ¬ 65536 < s.size) (g : goodT s) : pkT s = 0 := by unfold pkT; rw [if_neg h, if_pos g]
theorem pkT_bad {s : ByteArray} (h : ¬ 65536 < s.size) (g : ¬ goodT s) : pkT s = 3 := by unfold pkT; rw [if_neg h, if_neg g]
theorem pvT_lim {s : ByteArray} (h : 65536 < s.size) : pvT s = 0 := by unfold pvT; rw [if_neg (fun g => by omega)]
theorem pvT_good {s : ByteArray} (h : ¬ 65536 < s.size) (g : goodT s) : pvT s = sg0.sg (sgnT s) (vT (dgsT s) (dgsT s).size) := by unfold pvT; rw [if_pos ⟨by omega, g⟩]
theorem pvT_bad {s : ByteArray} (g : ¬ goodT s) : pvT s = 0 := by unfold pvT; rw [if_neg (fun h => g h.2)]
def tPrs (S : Sg) (pv pk : ByteArray → Int) : List AV → Option (Bool × AV) := fun args => match args with | [.val (.string s)] => some (true, .tup [S.int (pv s), .val (.int .i64 (pk s))]) | _ => none
theorem strEq_sz (s : ByteArray) : strEq s (ByteArray.mk #[]) = decide (s.size = 0) := by
  rw [strEq_iff]
  refine decide_eq_decide.2 ⟨fun h => by rw [h]; rfl, fun h => ?_⟩
  apply bytes_ext
  have : s.data.toList.length = 0 := by rw [Array.length_toList]; exact h
  rw [List.eq_nil_of_length_eq_zero this]
theorem size_sub1 (s : ByteArray) : (strSub s 1 s.size).size = s.size - 1 := by
  show (((s.data.toList.drop 1).take (s.size - 1)).toArray).size = _
  rw [List.size_toArray, List.length_take, List.length_drop, Array.length_toList]
  show min (s.size - 1) (s.size - 1) = _
  omega
theorem int_zero : sg0.int 0 = .agg [.val (.bool false), .val (.string (ByteArray.mk #[]))] := by
  have h1 : sg0.ng 0 = false := ng_eq 0
  have h2 : sg0.ms 0 = ByteArray.mk #[] := by
    apply bytes_ext
    show (magOf 0).data.toList = _
    rw [magOf_data, toB_zero]
  unfold Sg.int
  rw [h1, h2]
def CPa (S : Sg) : FuncId → List AV → Option (Bool × AV) := addC 22 (tPack S) noC
theorem parse_g (S : Sg) (κ : KT_pO) (φ : FT_pO) (s : ByteArray) : letI q_4 := (φ (0 : Int) s false [] (0 : Int) false (ByteArray.mk #[])); letI q_1 : Option AV := (bif κ (0 : Int) s false [] (0 : Int) false (ByteArray.mk #[]) then (bif S.okr q_4.fst.length (lim q_4.fst) then some (.tup [(.agg [(.val (.bool (S.ng (S.sg false (S.num q_4.fst.length (lim q_4.fst)))))), (.val (.string (S.ms (S.sg false (S.num q_4.fst.length (lim q_4.fst))))))]), (.val (.int .i64 0))]) else none) else none); letI q_2 : Option AV := (bif strEq s (ByteArray.mk #[]) then some (.tup [(.agg [(.val (.bool false)), (.val (.string (ByteArray.mk #[])))]), (.val (.int .i64 3))]) else (bif decide ((0 : Int) < (↑s.size : Int)) then (bif decide (byteAt s (0 : Nat) = (48 : Int)) then (bif decide ((1 : Int) < (↑s.size : Int)) then some (.tup [(.agg [(.val (.bool false)), (.val (.string (ByteArray.mk #[])))]), (.val (.int .i64 3))]) else q_1) else q_1) else none)); letI q_5 := (strSub s (1 : Nat) s.size); letI q_3 := (φ (0 : Int) q_5 true [] (0 : Int) false (ByteArray.mk #[]));
    (callA Try.prog ⟨CPa S, fun _ => false, LL_pO κ φ noL⟩ 10 10 7 [.val (.string s)] = (bif decide ((65536 : Int) < (↑s.size : Int)) then some (.tup [(.agg [(.val (.bool false)), (.val (.string (ByteArray.mk #[])))]), (.val (.int .i64 4))]) else (bif decide ((1 : Int) ≤ (↑s.size : Int)) then (bif decide ((1 : Int) ≤ (↑s.size : Int)) then (bif !strEq (strSub s (0 : Nat) (1 : Nat)) (ByteArray.mk #[(45 : UInt8)]) then q_2 else (bif decide ((1 : Int) ≤ (↑s.size : Int)) then (bif strEq q_5 (ByteArray.mk #[]) then some (.tup [(.agg [(.val (.bool false)), (.val (.string (ByteArray.mk #[])))]), (.val (.int .i64 3))]) else (bif decide ((0 : Int) < (↑q_5.size : Int)) then (bif decide (byteAt q_5 (0 : Nat) = (48 : Int)) then (bif decide ((1 : Int) < (↑q_5.size : Int)) then some (.tup [(.agg [(.val (.bool false)), (.val (.string (ByteArray.mk #[])))]), (.val (.int .i64 3))]) else some (.tup [(.agg [(.val (.bool false)), (.val (.string (ByteArray.mk #[])))]), (.val (.int .i64 3))])) else (bif κ (0 : Int) q_5 true [] (0 : Int) false (ByteArray.mk #[]) then (bif S.okr q_3.fst.length (lim q_3.fst) then some (.tup [(.agg [(.val (.bool (S.ng (S.sg true (S.num q_3.fst.length (lim q_3.fst)))))), (.val (.string (S.ms (S.sg true (S.num q_3.fst.length (lim q_3.fst))))))]), (.val (.int .i64 0))]) else none) else none)) else none)) else none)) else none) else q_2))) := by kernel_rfl
theorem parse_b (S : Sg) (κ : KT_pX) (φ : FT_pX) (s : ByteArray) : letI q_5 := (φ (0 : Int) s false [] (0 : Int) false (ByteArray.mk #[])); letI q_2 : Option AV := (bif κ (0 : Int) s false [] (0 : Int) false (ByteArray.mk #[]) then some (.tup [(.agg [(.val (.bool (q_5.snd.snd.snd.fst))), (.val (.string (q_5.snd.snd.snd.snd)))]), (.val (.int .i64 (q_5.fst)))]) else none); letI q_1 : Option AV := (bif strEq s (ByteArray.mk #[]) then some (.tup [(.agg [(.val (.bool false)), (.val (.string (ByteArray.mk #[])))]), (.val (.int .i64 3))]) else (bif decide ((0 : Int) < (↑s.size : Int)) then (bif decide (byteAt s (0 : Nat) = (48 : Int)) then (bif decide ((1 : Int) < (↑s.size : Int)) then some (.tup [(.agg [(.val (.bool false)), (.val (.string (ByteArray.mk #[])))]), (.val (.int .i64 3))]) else q_2) else q_2) else none)); letI q_3 := (strSub s (1 : Nat) s.size); letI q_4 := (φ (0 : Int) q_3 true [] (0 : Int) false (ByteArray.mk #[]));
    (callA Try.prog ⟨CPa S, fun _ => false, LL_pX κ φ noL⟩ 10 10 7 [.val (.string s)] = (bif decide ((65536 : Int) < (↑s.size : Int)) then some (.tup [(.agg [(.val (.bool false)), (.val (.string (ByteArray.mk #[])))]), (.val (.int .i64 4))]) else (bif decide ((1 : Int) ≤ (↑s.size : Int)) then (bif decide ((1 : Int) ≤ (↑s.size : Int)) then (bif !strEq (strSub s (0 : Nat) (1 : Nat)) (ByteArray.mk #[(45 : UInt8)]) then q_1 else (bif decide ((1 : Int) ≤ (↑s.size : Int)) then (bif strEq q_3 (ByteArray.mk #[]) then some (.tup [(.agg [(.val (.bool false)), (.val (.string (ByteArray.mk #[])))]), (.val (.int .i64 3))]) else (bif decide ((0 : Int) < (↑q_3.size : Int)) then (bif decide (byteAt q_3 (0 : Nat) = (48 : Int)) then (bif decide ((1 : Int) < (↑q_3.size : Int)) then some (.tup [(.agg [(.val (.bool false)), (.val (.string (ByteArray.mk #[])))]), (.val (.int .i64 3))]) else some (.tup [(.agg [(.val (.bool false)), (.val (.string (ByteArray.mk #[])))]), (.val (.int .i64 3))])) else (bif κ (0 : Int) q_3 true [] (0 : Int) false (ByteArray.mk #[]) then some (.tup [(.agg [(.val (.bool (q_4.snd.snd.snd.fst))), (.val (.string (q_4.snd.snd.snd.snd)))]), (.val (.int .i64 (q_4.fst)))]) else none)) else none)) else none)) else none) else q_1))) := by kernel_rfl
theorem CPa_ok : Meets Try.prog (CPa sg0) := (meets_none _).add ePack
theorem okr_dec {n i : Nat} (h : n < 10 ^ i) (hi : i ≤ 1000000) : sg0.okr (toL n).length (lim (toL n)) = true := okr_row (by have := bs_dec h; omega)
theorem parse_ok (s : ByteArray) (h : 65536 < s.size ∨ ∀ l, l < (dgsT s).size → okd (dgsT s) l) : callA Try.prog ⟨CPa sg0, fun _ => false, LL_pO cond_pO phi_pO noL⟩ 10 10 7 [.val (.string s)] = some (.tup [sg0.int (pvT s), .val (.int .i64 (pkT s))]) := by
  rw [parse_g]
  by_cases h0 : 65536 < s.size
  · rw [dT (show (65536 : Int) < (s.size : Int) by omega), pkT_lim h0, pvT_lim h0, int_zero]; rfl
  have ho := h.resolve_left h0
  rw [dF (show ¬ (65536 : Int) < (s.size : Int) by omega)]
  have loopv : ∀ (d : ByteArray) (ng : Bool), d.size ≤ 65536 → (∀ l, l < d.size → okd d l) → cond_pO 0 d ng [] 0 false (ByteArray.mk #[]) = true ∧ (phi_pO 0 d ng [] 0 false (ByteArray.mk #[])).1 = toL (vT d d.size) ∧ sg0.okr (toL (vT d d.size)).length (lim (toL (vT d d.size))) = true := by
    intro d ng h1 h2
    have hq : pre_pO 0 d ng [] 0 false (ByteArray.mk #[]) := ⟨rfl, rfl, by omega, h2⟩
    exact ⟨cond_pO_eq _ _ _ _ _ _ _ hq, (phi_pO_spec _ _ _ _ _ _ _ hq).2, okr_dec (vT_lt h2) (by omega)⟩
  simp only [strEq_sz, size_sub1]
  by_cases hs : sgnT s = true
  · have hd : dgsT s = strSub s 1 s.size := by unfold dgsT; rw [hs]; rfl
    have hs' := hs
    unfold sgnT at hs'
    rw [Bool.and_eq_true, decide_eq_true_eq] at hs'
    have hsz : (strSub s 1 s.size).size = s.size - 1 := size_sub1 s
    rw [hs'.2, dT (show (1 : Int) ≤ (s.size : Int) by omega)]
    by_cases h1 : s.size - 1 = 0
    · have hb : ¬ goodT s := fun g => by have := g.1; rw [hd, hsz] at this; omega
      rw [dT h1, pkT_bad h0 hb, pvT_bad hb, int_zero]; rfl
    · rw [dF h1, dT (show (0 : Int) < ((s.size - 1 : Nat) : Int) by omega)]
      by_cases h2 : byteAt (strSub s 1 s.size) 0 = 48
      · have hb : ¬ goodT s := fun g => g.2.2 ⟨by rw [hd]; exact h2, .inr hs⟩
        rw [dT h2, pkT_bad h0 hb, pvT_bad hb, int_zero]
        by_cases h3 : (1 : Int) < ((s.size - 1 : Nat) : Int)
        · rw [dT h3]; rfl
        · rw [dF h3]; rfl
      · have g : goodT s := ⟨by rw [hd, hsz]; omega, ho, fun k => h2 (by rw [← hd]; exact k.1)⟩
        rw [hd] at ho
        obtain ⟨c1, c2, c3⟩ := loopv (strSub s 1 s.size) true (by omega) ho
        rw [dF h2, c1, c2, num_toL', c3, pkT_good h0 g, pvT_good h0 g, hs, hd]; rfl
  · have hd : dgsT s = s := by unfold dgsT; rw [Bool.not_eq_true] at hs; rw [hs]; rfl
    rw [hd] at ho
    have key : (bif decide (s.size = 0) then some (AV.tup [(.agg [(.val (.bool false)), (.val (.string (ByteArray.mk #[])))]), (.val (.int .i64 3))]) else (bif decide ((0 : Int) < (s.size : Int)) then (bif decide (byteAt s (0 : Nat) = (48 : Int)) then (bif decide ((1 : Int) < (s.size : Int)) then some (.tup [(.agg [(.val (.bool false)), (.val (.string (ByteArray.mk #[])))]), (.val (.int .i64 3))]) else (bif cond_pO (0 : Int) s false [] (0 : Int) false (ByteArray.mk #[]) then (bif sg0.okr (phi_pO (0 : Int) s false [] (0 : Int) false (ByteArray.mk #[])).1.length (lim (phi_pO (0 : Int) s false [] (0 : Int) false (ByteArray.mk #[])).1) then some (.tup [(.agg [(.val (.bool (sg0.ng (sg0.sg false (sg0.num (phi_pO (0 : Int) s false [] (0 : Int) false (ByteArray.mk #[])).1.length (lim (phi_pO (0 : Int) s false [] (0 : Int) false (ByteArray.mk #[])).1)))))), (.val (.string (sg0.ms (sg0.sg false (sg0.num (phi_pO (0 : Int) s false [] (0 : Int) false (ByteArray.mk #[])).1.length (lim (phi_pO (0 : Int) s false [] (0 : Int) false (ByteArray.mk #[])).1))))))]), (.val (.int .i64 0))]) else none) else none)) else (bif cond_pO (0 : Int) s false [] (0 : Int) false (ByteArray.mk #[]) then (bif sg0.okr (phi_pO (0 : Int) s false [] (0 : Int) false (ByteArray.mk #[])).1.length (lim (phi_pO (0 : Int) s false [] (0 : Int) false (ByteArray.mk #[])).1) then some (.tup [(.agg [(.val (.bool (sg0.ng (sg0.sg false (sg0.num (phi_pO (0 : Int) s false [] (0 : Int) false (ByteArray.mk #[])).1.length (lim (phi_pO (0 : Int) s false [] (0 : Int) false (ByteArray.mk #[])).1)))))), (.val (.string (sg0.ms (sg0.sg false (sg0.num (phi_pO (0 : Int) s false [] (0 : Int) false (ByteArray.mk #[])).1.length (lim (phi_pO (0 : Int) s false [] (0 : Int) false (ByteArray.mk #[])).1))))))]), (.val (.int .i64 0))]) else none) else none)) else none)) = some (.tup [sg0.int (pvT s), .val (.int .i64 (pkT s))]) := by
      by_cases h1 : s.size = 0
      · have hb : ¬ goodT s := fun g => by have := g.1; rw [hd] at this; omega
        rw [dT h1, pkT_bad h0 hb, pvT_bad hb, int_zero]; rfl
      · rw [dF h1, dT (show (0 : Int) < (s.size : Int) by omega)]
        obtain ⟨c1, c2, c3⟩ := loopv s false (by omega) ho
        by_cases h3 : (1 : Int) < (s.size : Int)
        · by_cases h2 : byteAt s 0 = 48
          · have hb : ¬ goodT s := fun g => g.2.2 ⟨by rw [hd]; exact h2, .inl (by rw [hd]; omega)⟩
            rw [dT h2, dT h3, pkT_bad h0 hb, pvT_bad hb, int_zero]; rfl
          · have g : goodT s := ⟨by rw [hd]; omega, by rw [hd]; exact ho, fun k => h2 (by rw [← hd]; exact k.1)⟩
            rw [dF h2, c1, c2, num_toL', c3, pkT_good h0 g, pvT_good h0 g, Bool.eq_false_iff.2 hs, hd]; rfl
        · have g : goodT s := ⟨by rw [hd]; omega, by rw [hd]; exact ho, fun k => by
            rcases k.2 with k | k
            · rw [hd] at k; omega
            · exact hs k⟩
          rw [dF h3, c1, c2, num_toL', c3, pkT_good h0 g, pvT_good h0 g, Bool.eq_false_iff.2 hs, hd]
          cases decide (byteAt s 0 = 48) <;> rfl
    by_cases h1 : s.size = 0
    · rw [dF (show ¬ (1 : Int) ≤ (s.size : Int) by omega)]; exact key
    · have h2 : strEq (strSub s 0 1) (ByteArray.mk #[45]) = false := by
        unfold sgnT at hs
        rw [dT (show 0 < s.size by omega), Bool.true_and, Bool.not_eq_true] at hs
        exact hs
      rw [dT (show (1 : Int) ≤ (s.size : Int) by omega), h2]; exact key
theorem first_bad {P : Nat → Prop} : ∀ n, (∃ l, l < n ∧ ¬ P l) → ∃ m, m < n ∧ (∀ l, l < m → P l) ∧ ¬ P m
  | 0, ⟨l, h, _⟩ => by omega
  | n + 1, ⟨l, h, hb⟩ => by
    by_cases hk : ∃ l, l < n ∧ ¬ P l
    · obtain ⟨m, h1, h2, h3⟩ := first_bad n hk
      exact ⟨m, by omega, h2, h3⟩
    · have h2 : ∀ k, k < n → P k := fun k hk2 => Classical.byContradiction fun hn => hk ⟨k, hk2, hn⟩
      refine ⟨n, Nat.lt_succ_self n, h2, ?_⟩
      have : l = n := by
        rcases Nat.lt_or_ge l n with h3 | h3
        · exact absurd (h2 l h3) hb
        · omega
      rw [← this]; exact hb
theorem parse_bad (s : ByteArray) (h0 : ¬ 65536 < s.size) (hb : ∃ l, l < (dgsT s).size ∧ ¬ okd (dgsT s) l) : callA Try.prog ⟨CPa sg0, fun _ => false, LL_pX cond_pX phi_pX noL⟩ 10 10 7 [.val (.string s)] = some (.tup [sg0.int (pvT s), .val (.int .i64 (pkT s))]) := by
  rw [parse_b]
  have hg : ¬ goodT s := fun g => by
    obtain ⟨l, h1, h2⟩ := hb
    exact h2 (g.2.1 l h1)
  rw [dF (show ¬ (65536 : Int) < (s.size : Int) by omega), pkT_bad h0 hg, pvT_bad hg, int_zero]
  have loopv : ∀ (d : ByteArray) (ng : Bool), d.size ≤ 65536 → (∃ l, l < d.size ∧ ¬ okd d l) → cond_pX 0 d ng [] 0 false (ByteArray.mk #[]) = true ∧ (phi_pX 0 d ng [] 0 false (ByteArray.mk #[])).1 = 3 ∧ (phi_pX 0 d ng [] 0 false (ByteArray.mk #[])).2.2.2.1 = false ∧ (phi_pX 0 d ng [] 0 false (ByteArray.mk #[])).2.2.2.2 = ByteArray.mk #[] := by
    intro d ng h1 h2
    have hq : pre_pX 0 d ng [] 0 false (ByteArray.mk #[]) := ⟨rfl, rfl, by omega, first_bad _ h2⟩
    exact ⟨cond_pX_eq _ _ _ _ _ _ _ hq, (phi_pX_spec _ _ _ _ _ _ _ hq).2⟩
  simp only [strEq_sz, size_sub1]
  by_cases hs : sgnT s = true
  · have hd : dgsT s = strSub s 1 s.size := by unfold dgsT; rw [hs]; rfl
    have hs' := hs
    unfold sgnT at hs'
    rw [Bool.and_eq_true, decide_eq_true_eq] at hs'
    have hsz : (strSub s 1 s.size).size = s.size - 1 := size_sub1 s
    rw [hd] at hb
    obtain ⟨c1, c2, c3, c4⟩ := loopv (strSub s 1 s.size) true (by omega) hb
    have h1 : ¬ s.size - 1 = 0 := by obtain ⟨l, h, _⟩ := hb; omega
    rw [hs'.2, dT (show (1 : Int) ≤ (s.size : Int) by omega), dF h1, dT (show (0 : Int) < ((s.size - 1 : Nat) : Int) by omega), c1, c2, c3, c4]
    cases decide (byteAt (strSub s 1 s.size) 0 = 48) <;> cases decide ((1 : Int) < ((s.size - 1 : Nat) : Int)) <;> rfl
  · have hd : dgsT s = s := by unfold dgsT; rw [Bool.not_eq_true] at hs; rw [hs]; rfl
    rw [hd] at hb
    obtain ⟨c1, c2, c3, c4⟩ := loopv s false (by omega) hb
    have h1 : ¬ s.size = 0 := by obtain ⟨l, h, _⟩ := hb; omega
    have h2 : strEq (strSub s 0 1) (ByteArray.mk #[45]) = false := by
      unfold sgnT at hs
      rw [dT (show 0 < s.size by omega), Bool.true_and, Bool.not_eq_true] at hs
      exact hs
    rw [dT (show (1 : Int) ≤ (s.size : Int) by omega), h2, dF h1, dT (show (0 : Int) < (s.size : Int) by omega), c1, c2, c3, c4]
    cases decide (byteAt s 0 = 48) <;> cases decide ((1 : Int) < (s.size : Int)) <;> rfl
theorem eParse : Entry Try.prog 7 (tPrs sg0 pvT pkT) := by
  intro args r h
  unfold tPrs at h
  split at h
  · rename_i s
    simp only [Option.some.injEq, Prod.mk.injEq, true_and] at h
    subst h
    intro B w xs hB hx
    by_cases hc : 65536 < s.size ∨ ∀ l, l < (dgsT s).size → okd (dgsT s) l
    · exact callA_sound CPa_ok (LL_pO_ok LOk.none).ok mixed (by kernel_rfl) (parse_ok s hc) B w xs hB hx
    · have h0 : ¬ 65536 < s.size := fun h => hc (.inl h)
      have hb : ∃ l, l < (dgsT s).size ∧ ¬ okd (dgsT s) l := Classical.byContradiction fun hn => hc (.inr fun l hl => Classical.byContradiction fun hk => hn ⟨l, hl, hk⟩)
      exact callA_sound CPa_ok (LL_pX_ok LOk.none).ok mixed (by kernel_rfl) (parse_bad s h0 hb) B w xs hB hx
  · cases h
end
end Go.Proofs.Ytndpfegbbpoopaa.L
namespace Go.Proofs.Ytndpfegbbpoopaa.L
open Go Go.V Go.RowKit Go.Proofs.Ytndpfegbbpoopaa.Sp Go.Proofs.Ytndpfegbbpoopaa.F
open Go.Proofs (Try.prog)
noncomputable section
end
end Go.Proofs.Ytndpfegbbpoopaa.L
namespace Go.Proofs.Ytndpfegbbpoopaa.L
open Go Go.V Go.RowKit Go.Proofs.Ytndpfegbbpoopaa.Sp Go.Proofs.Ytndpfegbbpoopaa.F
open Go.Proofs (Try.prog)
noncomputable section
end
end Go.Proofs.Ytndpfegbbpoopaa.L
namespace Go.Proofs.Ytndpfegbbpoopaa.L
open Go Go.V Go.RowKit Go.Proofs.Ytndpfegbbpoopaa.Sp Go.Proofs.Ytndpfegbbpoopaa.F
open Go.Proofs (Try.prog)
noncomputable section
theorem sub_head {s : ByteArray} (h : 0 < s.size) : strEq (strSub s 0 1) (ByteArray.mk #[45]) = decide (byteAt s 0 = 45) := by
  have hs : ∃ c l, s.data.toList = c :: l := by
    cases hl : s.data.toList with
    | nil =>
      have : s.data.toList.length = s.size := by rw [Array.length_toList]; rfl
      rw [hl] at this
      have : (0 : Nat) = s.size := this
      omega
    | cons c l => exact ⟨c, l, rfl⟩
  obtain ⟨c, l, hl⟩ := hs
  have e1 : byteAt s 0 = ((c.toNat : Nat) : Int) := by unfold byteAt; rw [hl]; rfl
  have e2 : strEq (strSub s 0 1) (ByteArray.mk #[45]) = ([c] == [(45 : UInt8)]) := by
    unfold strEq
    show ((s.data.toList.drop 0).take (1 - 0) == [45]) = _
    rw [hl]; rfl
  rw [e1, e2, Bool.eq_iff_iff]
  simp only [beq_iff_eq, List.cons.injEq, and_true, decide_eq_true_eq]
  constructor
  · intro h; rw [h]; rfl
  · intro h
    apply UInt8.toNat_inj.1
    show c.toNat = 45
    omega
end
end Go.Proofs.Ytndpfegbbpoopaa.L
namespace Go.Proofs.Ytndpfegbbpoopaa.L
open Go Go.V Go.RowKit Go.Proofs.Ytndpfegbbpoopaa.Sp Go.Proofs.Ytndpfegbbpoopaa.F
open Go.Proofs (Try.prog)
noncomputable section
theorem byteAt_list (s : ByteArray) (i : Nat) : byteAt s i = (bytesI s).getD i 0 := by
  unfold byteAt bytesI
  rw [List.getD_eq_getElem?_getD, List.getD_eq_getElem?_getD, List.getElem?_map]
  cases s.data.toList[i]? <;> rfl
theorem bytes_of {l : List Int} (h : okb l) : bytesI (ofBytes l) = l := by
  unfold bytesI ofBytes
  show (l.map fun z => UInt8.ofNat z.toNat).map (fun b => (b.toNat : Int)) = l
  rw [List.map_map]
  induction l with
  | nil => rfl
  | cons x l ih =>
    obtain ⟨c, hc, rfl⟩ := h x List.mem_cons_self
    rw [List.map_cons, ih (fun z hz => h z (List.mem_cons_of_mem _ hz))]
    refine congrArg (· :: l) ?_
    show (((UInt8.ofNat ((c : Int)).toNat).toNat : Nat) : Int) = (c : Int)
    rw [Int.toNat_natCast, UInt8.toNat_ofNat', Nat.mod_eq_of_lt (by omega)]
theorem of_bytes (s : ByteArray) : ofBytes (bytesI s) = s := by
  apply bytes_ext
  unfold bytesI ofBytes
  show (s.data.toList.map fun b => (b.toNat : Int)).map (fun z => UInt8.ofNat z.toNat) = _
  rw [List.map_map]
  have : ∀ b : UInt8, ((fun z : Int => UInt8.ofNat z.toNat) ∘ fun b : UInt8 => (b.toNat : Int)) b = b := fun b => by
    show UInt8.ofNat ((b.toNat : Int)).toNat = b
    rw [Int.toNat_natCast]
    apply UInt8.toNat_inj.1
    rw [UInt8.toNat_ofNat']
    exact Nat.mod_eq_of_lt b.toNat_lt
  rw [show ((fun z : Int => UInt8.ofNat z.toNat) ∘ fun b : UInt8 => (b.toNat : Int)) = id from funext this, List.map_id]
theorem bytes_sub1 (s : ByteArray) : bytesI (strSub s 1 s.size) = (bytesI s).drop 1 := by
  unfold bytesI
  show ((s.data.toList.drop 1).take (s.size - 1)).map _ = _
  have hl : (s.data.toList.drop 1).length = s.size - 1 := by rw [List.length_drop, Array.length_toList]; rfl
  rw [List.take_of_length_le (by rw [hl]; exact Nat.le_refl _), List.map_drop]
theorem getD_rev {l : List Int} {i : Nat} (h : i < l.length) : l.reverse.getD i 0 = l.getD (l.length - 1 - i) 0 := by
  rw [List.getD_eq_getElem?_getD, List.getD_eq_getElem?_getD, List.getElem?_reverse h]
def rdg (n : Nat) : List Int := (dp (dl n) n).reverse
theorem rd_len (n : Nat) : (rdg n).length = dl n := by unfold rdg; rw [List.length_reverse, dp_len]
theorem rd_ok (n : Nat) : okb (rdg n) := dp_u8 _ _
theorem rd_get {n i : Nat} (h : i < dl n) : (rdg n).getD i 0 = ((n / 10 ^ (dl n - 1 - i) % 10 + 48 : Nat) : Int) := by
  unfold rdg
  rw [getD_rev (by rw [dp_len]; exact h), dp_len, dp_get _ _ _ (by omega)]
theorem rd_head {n : Nat} (h : n ≠ 0) : (rdg n).getD 0 0 ≠ 48 ∧ 48 ≤ (rdg n).getD 0 0 := by
  have hp := dl_pos h
  rw [rd_get hp]
  have ht := dp_top h
  rw [dp_get _ _ _ (by omega)] at ht
  exact ⟨ht, by omega⟩
theorem rd_digs {n : Nat} {d : ByteArray} (hd : bytesI d = rdg n) : d.size = dl n ∧ (∀ i, i < dl n → okd d i) ∧ ∀ i, i ≤ dl n → vT d i = n / 10 ^ (dl n - i) := by
  have hsz : d.size = dl n := by rw [← bytesI_len, hd, rd_len]
  have hb : ∀ i, i < dl n → byteAt d i = ((n / 10 ^ (dl n - 1 - i) % 10 + 48 : Nat) : Int) := fun i hi => by rw [byteAt_list, hd, rd_get hi]
  refine ⟨hsz, fun i hi => ?_, fun i => ?_⟩
  · unfold okd; rw [hb i hi]; omega
  · induction i with
    | zero =>
      intro _
      rw [Nat.sub_zero, Nat.div_eq_of_lt (dl_lt n)]; rfl
    | succ i ih =>
      intro hi
      show vT d i * 10 + dig d i = _
      have hdg : dig d i = n / 10 ^ (dl n - 1 - i) % 10 := by unfold dig; rw [hb i (by omega)]; omega
      have e : n / 10 ^ (dl n - i) = n / 10 ^ (dl n - 1 - i) / 10 := by rw [Nat.div_div_eq_div_mul, ← Nat.pow_succ, show (dl n - 1 - i).succ = dl n - i by omega]
      rw [ih (by omega), hdg, e, show dl n - (i + 1) = dl n - 1 - i by omega]
      omega
theorem txt_ne {z : Int} (h : z ≠ 0) : txt z = ofBytes ((if z < 0 then [45] else []) ++ rdg z.natAbs) := by unfold txt rdg; rw [if_neg h]
theorem pre_ok (z : Int) (n : Nat) : okb ((if z < 0 then [45] else []) ++ rdg n) := by
  intro x hx
  rcases List.mem_append.1 hx with hx | hx
  · split at hx
    · rw [List.mem_singleton] at hx; exact ⟨45, by decide, hx⟩
    · cases hx
  · exact rd_ok n x hx
theorem sgn_at {s : ByteArray} : sgnT s = (decide (0 < s.size) && decide (byteAt s 0 = 45)) := by
  unfold sgnT
  by_cases h : 0 < s.size
  · rw [dT h, sub_head h]
  · rw [dF h]; rfl
theorem txt_parts {z : Int} (h : z ≠ 0) : sgnT (txt z) = decide (z < 0) ∧ bytesI (dgsT (txt z)) = rdg z.natAbs ∧ (txt z).size = dl z.natAbs + (if z < 0 then 1 else 0) := by
  have hn : z.natAbs ≠ 0 := by omega
  have hp := dl_pos hn
  obtain ⟨h1, h2⟩ := rd_head hn
  have hb : bytesI (txt z) = (if z < 0 then [45] else []) ++ rdg z.natAbs := by rw [txt_ne h, bytes_of (pre_ok _ _)]
  have hsz : (txt z).size = dl z.natAbs + (if z < 0 then 1 else 0) := by
    rw [← bytesI_len, hb, List.length_append, rd_len]
    split <;> simp only [List.length_cons, List.length_nil] <;> omega
  have hs : sgnT (txt z) = decide (z < 0) := by
    rw [sgn_at, byteAt_list, hb, dT (show 0 < (txt z).size by rw [hsz]; omega), Bool.true_and]
    by_cases hz : z < 0
    · rw [if_pos hz, dT hz]; rfl
    · rw [if_neg hz, dF hz, List.nil_append, dF (by omega)]
  refine ⟨hs, ?_, hsz⟩
  unfold dgsT
  rw [hs]
  by_cases hz : z < 0
  · rw [dT hz, cond_true, bytes_sub1, hb, if_pos hz]; rfl
  · rw [dF hz, cond_false, hb, if_neg hz]; rfl
theorem zero_good : goodT ⟨#[48]⟩ ∧ pvT ⟨#[48]⟩ = 0 := by
  have hs : sgnT ⟨#[48]⟩ = false := rfl
  have hd : dgsT ⟨#[48]⟩ = ⟨#[48]⟩ := rfl
  have h1 : okd ⟨#[48]⟩ 0 := by unfold okd; decide
  have g : goodT ⟨#[48]⟩ := by
    unfold goodT
    rw [hd, hs]
    refine ⟨by decide, fun l hl => ?_, fun k => ?_⟩
    · have : l = 0 := by
        have : (ByteArray.mk #[48]).size = 1 := rfl
        omega
      rw [this]; exact h1
    · rcases k.2 with k | k
      · exact absurd k (by decide)
      · cases k
  refine ⟨g, ?_⟩
  rw [pvT_good (by decide) g, hs, hd]
  rfl
theorem read_txt {z : Int} (h : dl z.natAbs ≤ 60000) : goodT (txt z) ∧ pvT (txt z) = z ∧ pkT (txt z) = 0 ∧ (txt z).size ≤ 60001 := by
  by_cases h0 : z = 0
  · have e : txt z = ⟨#[48]⟩ := by unfold txt; rw [if_pos h0]
    rw [e, h0]
    exact ⟨zero_good.1, zero_good.2, pkT_good (by decide) zero_good.1, by decide⟩
  · obtain ⟨h1, h2, h3⟩ := txt_parts h0
    have hn : z.natAbs ≠ 0 := by omega
    have hp := dl_pos hn
    obtain ⟨d1, d2, d3⟩ := rd_digs h2
    obtain ⟨q1, _⟩ := rd_head hn
    have hsz : (txt z).size ≤ 60001 := by rw [h3]; split <;> omega
    have g : goodT (txt z) := by
      refine ⟨by omega, by rw [d1]; exact d2, fun k => q1 ?_⟩
      rw [← h2, ← byteAt_list]; exact k.1
    have hv : vT (dgsT (txt z)) (dgsT (txt z)).size = z.natAbs := by rw [d1, d3 _ (Nat.le_refl _), Nat.sub_self, Nat.pow_zero, Nat.div_one]
    refine ⟨g, ?_, pkT_good (by omega) g, hsz⟩
    rw [pvT_good (by omega) g, hv, h1]
    show (if decide (z < 0) = true then -((z.natAbs : Nat) : Int) else ((z.natAbs : Nat) : Int)) = z
    by_cases hz : z < 0
    · rw [if_pos (decide_eq_true hz)]; omega
    · rw [if_neg (by rw [decide_eq_true_eq]; exact hz)]; omega
theorem digs_rd {d : ByteArray} (h0 : 0 < d.size) (ho : ∀ l, l < d.size → okd d l) (hh : byteAt d 0 ≠ 48) : vT d d.size ≠ 0 ∧ bytesI d = rdg (vT d d.size) := by
  have hlt := vT_lt ho
  have hv : ∀ j, j ≤ d.size → vT d (d.size - j) = vT d d.size / 10 ^ j := by
    intro j
    induction j with
    | zero => intro _; rw [Nat.pow_zero, Nat.div_one]; rfl
    | succ j ih =>
      intro hj
      have h1 := ih (by omega)
      have h2 : vT d (d.size - j) = vT d (d.size - (j + 1)) * 10 + dig d (d.size - (j + 1)) := by
        rw [show d.size - j = (d.size - (j + 1)) + 1 by omega]; rfl
      have h3 := dig_lt (ho (d.size - (j + 1)) (by omega))
      rw [Nat.pow_succ, ← Nat.div_div_eq_div_mul, ← h1, h2]
      omega
  have h1 : 10 ^ (d.size - 1) ≤ vT d d.size := by
    have h2 := hv (d.size - 1) (by omega)
    have h3 : vT d (d.size - (d.size - 1)) = dig d 0 := by
      rw [show d.size - (d.size - 1) = 0 + 1 by omega]
      show 0 * 10 + dig d 0 = _
      omega
    have h4 : 0 < dig d 0 := by
      have := (ho 0 h0).1
      unfold dig
      omega
    rw [h3] at h2
    have hp : 0 < 10 ^ (d.size - 1) := Nat.pow_pos (by decide)
    rcases Nat.lt_or_ge (vT d d.size) (10 ^ (d.size - 1)) with h | h
    · rw [Nat.div_eq_of_lt h] at h2; omega
    · exact h
  have hp : 0 < 10 ^ (d.size - 1) := Nat.pow_pos (by decide)
  have hdl := dl_uniq hlt (.inr h1)
  refine ⟨by omega, ?_⟩
  refine List.ext_getElem? fun i => ?_
  by_cases hi : i < d.size
  · have e1 : (bytesI d).getD i 0 = (rdg (vT d d.size)).getD i 0 := by
      rw [← byteAt_list, rd_get (by omega), ← hdl]
      have h2 := hv (d.size - 1 - i) (by omega)
      have h3 : vT d (d.size - (d.size - 1 - i)) = vT d i * 10 + dig d i := by rw [show d.size - (d.size - 1 - i) = i + 1 by omega]; rfl
      have h4 := dig_lt (ho i hi)
      have h5 := (ho i hi).1
      rw [← h2, h3]
      unfold dig at *
      omega
    rw [List.getD_eq_getElem?_getD, List.getD_eq_getElem?_getD] at e1
    have l1 : i < (bytesI d).length := by rw [bytesI_len]; exact hi
    have l2 : i < (rdg (vT d d.size)).length := by rw [rd_len, ← hdl]; exact hi
    rw [List.getElem?_eq_getElem l1, List.getElem?_eq_getElem l2, Option.getD_some, Option.getD_some] at e1
    rw [List.getElem?_eq_getElem l1, List.getElem?_eq_getElem l2, e1]
  · rw [List.getElem?_eq_none (by rw [bytesI_len]; omega), List.getElem?_eq_none (by rw [rd_len, ← hdl]; omega)]
theorem txt_read {s : ByteArray} (hs : ¬ 65536 < s.size) (g : goodT s) : txt (pvT s) = s := by
  rw [pvT_good hs g]
  obtain ⟨g1, g2, g3⟩ := g
  have bs_s : bytesI s = (if sgnT s = true then [45] else []) ++ bytesI (dgsT s) := by
    unfold dgsT
    by_cases h : sgnT s = true
    · rw [if_pos h, h, cond_true, bytes_sub1]
      rw [sgn_at, Bool.and_eq_true, decide_eq_true_eq, decide_eq_true_eq, byteAt_list] at h
      have hl : 0 < (bytesI s).length := by rw [bytesI_len]; exact h.1
      cases hb : bytesI s with
      | nil => rw [hb] at hl; exact absurd hl (by decide)
      | cons x l =>
        rw [hb] at h
        rw [show x = 45 from h.2]; rfl
    · rw [if_neg h, Bool.eq_false_iff.2 h, cond_false]; rfl
  by_cases hh : byteAt (dgsT s) 0 = 48
  · have hs0 : sgnT s = false := Bool.eq_false_iff.2 fun h => g3 ⟨hh, .inr h⟩
    have h1 : (dgsT s).size = 1 := by
      rcases Nat.lt_or_ge 1 (dgsT s).size with h | h
      · exact absurd ⟨hh, .inl h⟩ g3
      · omega
    have hv : vT (dgsT s) (dgsT s).size = 0 := by
      rw [h1]
      show 0 * 10 + dig (dgsT s) 0 = 0
      unfold dig
      rw [hh]; rfl
    rw [hv, hs0]
    have e : txt (sg0.sg false 0) = ⟨#[48]⟩ := rfl
    rw [e, ← of_bytes s, bs_s, hs0]
    have e2 : bytesI (dgsT s) = [48] := by
      have hl : (bytesI (dgsT s)).length = 1 := by rw [bytesI_len]; exact h1
      rw [byteAt_list] at hh
      cases hb : bytesI (dgsT s) with
      | nil => rw [hb] at hl; exact absurd hl (by decide)
      | cons x l =>
        rw [hb] at hl hh
        have : l = [] := List.eq_nil_of_length_eq_zero (by rw [List.length_cons] at hl; omega)
        rw [this, show x = 48 from hh]
    rw [e2]; rfl
  · obtain ⟨d1, d2⟩ := digs_rd g1 g2 hh
    have hz : sg0.sg (sgnT s) (vT (dgsT s) (dgsT s).size) ≠ 0 := by
      show (if sgnT s = true then -((vT (dgsT s) (dgsT s).size : Nat) : Int) else ((vT (dgsT s) (dgsT s).size : Nat) : Int)) ≠ 0
      split <;> omega
    rw [txt_ne hz]
    have hna : (sg0.sg (sgnT s) (vT (dgsT s) (dgsT s).size)).natAbs = vT (dgsT s) (dgsT s).size := by
      show (if sgnT s = true then -((vT (dgsT s) (dgsT s).size : Nat) : Int) else ((vT (dgsT s) (dgsT s).size : Nat) : Int)).natAbs = _
      split <;> omega
    have hneg : (sg0.sg (sgnT s) (vT (dgsT s) (dgsT s).size) < 0) ↔ sgnT s = true := by
      show (if sgnT s = true then -((vT (dgsT s) (dgsT s).size : Nat) : Int) else ((vT (dgsT s) (dgsT s).size : Nat) : Int)) < 0 ↔ _
      constructor
      · intro h
        by_cases hc : sgnT s = true
        · exact hc
        · rw [if_neg hc] at h; omega
      · intro h
        rw [if_pos h]; omega
    rw [hna, ← d2]
    conv => rhs; rw [← of_bytes s, bs_s]
    by_cases hc : sgnT s = true
    · rw [if_pos hc, if_pos (hneg.2 hc)]
    · rw [if_neg hc, if_neg (fun h => hc (hneg.1 h))]
end
end Go.Proofs.Ytndpfegbbpoopaa.L
