import Derived.Test.YtibaendebbicjaaZYA
import Derived.Test.YtibaendebbicjaaZL
import Derived.Shelf.Strings.Search1
import Derived.Test.YtibaendebbicjaaZQB
set_option linter.unusedVariables false
set_option linter.unusedSimpArgs false
namespace Go.Proofs.Ytibaendebbicjaa.L
open Go Go.V Go.RowKit Go.Proofs.Ytibaendebbicjaa.Sp Go.Proofs.Ytibaendebbicjaa.F
open Go.Proofs (Try.prog)
noncomputable section
def sgnT (s : ByteArray) : Bool := decide (0 < s.size) && strEq (strSub s 0 1) (ByteArray.mk #[45])
def dgsT (s : ByteArray) : ByteArray := bif sgnT s then strSub s 1 s.size else s
def goodT (s : ByteArray) : Prop := 0 < (dgsT s).size ∧ (∀ l, l < (dgsT s).size → okd (dgsT s) l) ∧ ¬ (byteAt (dgsT s) 0 = 48 ∧ (1 < (dgsT s).size ∨ sgnT s = true))
noncomputable def pkT (s : ByteArray) : Int := if 65536 < s.size then 4 else @ite _ (goodT s) (Classical.propDecidable _) 0 3
noncomputable def pvT (s : ByteArray) : Int := @ite _ (s.size ≤ 65536 ∧ goodT s) (Classical.propDecidable _) (sg0.sg (sgnT s) (vT (dgsT s) (dgsT s).size)) 0
theorem pkT_lim {s : ByteArray} (h : 65536 < s.size) : pkT s = 4 := if_pos h
theorem pkT_good {s : ByteArray} (h : ¬ 65536 < s.size) (g : goodT s) : pkT s = 0 := by unfold pkT; rw [if_neg h, if_pos g]
theorem pkT_bad {s : ByteArray} (h : ¬ 65536 < s.size) (g : ¬ goodT s) : pkT s = 3 := by unfold pkT; rw [if_neg h, if_neg g]
theorem pvT_lim {s : ByteArray} (h : 65536 < s.size) : pvT s = 0 := by unfold pvT; rw [if_neg (fun g => by omega)]
theorem pvT_good {s : ByteArray} (h : ¬ 65536 < s.size) (g : goodT s) : pvT s = sg0.sg (sgnT s) (vT (dgsT s) (dgsT s).size) := by unfold pvT; rw [if_pos ⟨by omega, g⟩]
theorem pvT_bad {s : ByteArray} (g : ¬ goodT s) : pvT s = 0 := by unfold pvT; rw [if_neg (fun h => g h.2)]
def tPrs (S : Sg) (pv pk : ByteArray → Int) : List AV → Option (Bool × AV) := fun args => match args with | [.val (.string s)] => some (true, .tup [S.int (pv s), .val (.int .i64 (pk s))]) | _ => none
theorem strEq_sz (s : ByteArray) : strEq s (ByteArray.mk #[]) = decide (s.size = 0) := by
  rw [strEq_iff]
  refine decide_eq_decide.2 ⟨fun h => by rw [h]; rfl, fun h => ?_⟩
  apply bytes_ext
  have : s.data.toList.length = 0 := by rw [Array.length_toList]; exact h
  rw [List.eq_nil_of_length_eq_zero this]
theorem size_sub1 (s : ByteArray) : (strSub s 1 s.size).size = s.size - 1 := by
  show (((s.data.toList.drop 1).take (s.size - 1)).toArray).size = _
  rw [List.size_toArray, List.length_take, List.length_drop, Array.length_toList]
  show min (s.size - 1) (s.size - 1) = _
  omega
theorem int_zero : sg0.int 0 = .agg [.val (.bool false), .val (.string (ByteArray.mk #[]))] := by
  have h1 : sg0.ng 0 = false := ng_eq 0
  have h2 : sg0.ms 0 = ByteArray.mk #[] := by
    apply bytes_ext
    show (magOf 0).data.toList = _
    rw [magOf_data, toB_zero]
  unfold Sg.int
  rw [h1, h2]
theorem sub_head {s : ByteArray} (h : 0 < s.size) : strEq (strSub s 0 1) (ByteArray.mk #[45]) = decide (byteAt s 0 = 45) := by
  have hs : ∃ c l, s.data.toList = c :: l := by
    cases hl : s.data.toList with
    | nil =>
      have : s.data.toList.length = s.size := by rw [Array.length_toList]; rfl
      rw [hl] at this
      have : (0 : Nat) = s.size := this
      omega
    | cons c l => exact ⟨c, l, rfl⟩
  obtain ⟨c, l, hl⟩ := hs
  have e1 : byteAt s 0 = ((c.toNat : Nat) : Int) := by unfold byteAt; rw [hl]; rfl
  have e2 : strEq (strSub s 0 1) (ByteArray.mk #[45]) = ([c] == [(45 : UInt8)]) := by
    unfold strEq
    show ((s.data.toList.drop 0).take (1 - 0) == [45]) = _
    rw [hl]; rfl
  rw [e1, e2, Bool.eq_iff_iff]
  simp only [beq_iff_eq, List.cons.injEq, and_true, decide_eq_true_eq]
  constructor
  · intro h; rw [h]; rfl
  · intro h
    apply UInt8.toNat_inj.1
    show c.toNat = 45
    omega
def CPa (S : Sg) : FuncId → List AV → Option (Bool × AV) := addC 39 (tPack S) noC
theorem parse_g (S : Sg) (κ : KT_pO) (φ : FT_pO) (s : ByteArray) : letI q_4 := (φ (0 : Int) s false [] (0 : Int) false (ByteArray.mk #[])); letI q_1 : Option AV := (bif κ (0 : Int) s false [] (0 : Int) false (ByteArray.mk #[]) then (bif S.okr q_4.fst.length (lim q_4.fst) then some (.tup [(.agg [(.val (.bool (S.ng (S.sg false (S.num q_4.fst.length (lim q_4.fst)))))), (.val (.string (S.ms (S.sg false (S.num q_4.fst.length (lim q_4.fst))))))]), (.val (.int .i64 0))]) else none) else none); letI q_2 : Option AV := (bif strEq s (ByteArray.mk #[]) then some (.tup [(.agg [(.val (.bool false)), (.val (.string (ByteArray.mk #[])))]), (.val (.int .i64 3))]) else (bif decide ((0 : Int) < (↑s.size : Int)) then (bif decide (byteAt s (0 : Nat) = (48 : Int)) then (bif decide ((1 : Int) < (↑s.size : Int)) then some (.tup [(.agg [(.val (.bool false)), (.val (.string (ByteArray.mk #[])))]), (.val (.int .i64 3))]) else q_1) else q_1) else none)); letI q_5 := (strSub s (1 : Nat) s.size); letI q_3 := (φ (0 : Int) q_5 true [] (0 : Int) false (ByteArray.mk #[]));
    (callA Try.prog ⟨CPa S, fun _ => false, LL_pO κ φ noL⟩ 10 10 16 [.val (.string s)] = (bif decide ((65536 : Int) < (↑s.size : Int)) then some (.tup [(.agg [(.val (.bool false)), (.val (.string (ByteArray.mk #[])))]), (.val (.int .i64 4))]) else (bif decide ((1 : Int) ≤ (↑s.size : Int)) then (bif decide ((1 : Int) ≤ (↑s.size : Int)) then (bif !strEq (strSub s (0 : Nat) (1 : Nat)) (ByteArray.mk #[(45 : UInt8)]) then q_2 else (bif decide ((1 : Int) ≤ (↑s.size : Int)) then (bif strEq q_5 (ByteArray.mk #[]) then some (.tup [(.agg [(.val (.bool false)), (.val (.string (ByteArray.mk #[])))]), (.val (.int .i64 3))]) else (bif decide ((0 : Int) < (↑q_5.size : Int)) then (bif decide (byteAt q_5 (0 : Nat) = (48 : Int)) then (bif decide ((1 : Int) < (↑q_5.size : Int)) then some (.tup [(.agg [(.val (.bool false)), (.val (.string (ByteArray.mk #[])))]), (.val (.int .i64 3))]) else some (.tup [(.agg [(.val (.bool false)), (.val (.string (ByteArray.mk #[])))]), (.val (.int .i64 3))])) else (bif κ (0 : Int) q_5 true [] (0 : Int) false (ByteArray.mk #[]) then (bif S.okr q_3.fst.length (lim q_3.fst) then some (.tup [(.agg [(.val (.bool (S.ng (S.sg true (S.num q_3.fst.length (lim q_3.fst)))))), (.val (.string (S.ms (S.sg true (S.num q_3.fst.length (lim q_3.fst))))))]), (.val (.int .i64 0))]) else none) else none)) else none)) else none)) else none) else q_2))) := by kernel_rfl
theorem parse_b (S : Sg) (κ : KT_pX) (φ : FT_pX) (s : ByteArray) : letI q_5 := (φ (0 : Int) s false [] (0 : Int) false (ByteArray.mk #[])); letI q_2 : Option AV := (bif κ (0 : Int) s false [] (0 : Int) false (ByteArray.mk #[]) then some (.tup [(.agg [(.val (.bool (q_5.snd.snd.snd.fst))), (.val (.string (q_5.snd.snd.snd.snd)))]), (.val (.int .i64 (q_5.fst)))]) else none); letI q_1 : Option AV := (bif strEq s (ByteArray.mk #[]) then some (.tup [(.agg [(.val (.bool false)), (.val (.string (ByteArray.mk #[])))]), (.val (.int .i64 3))]) else (bif decide ((0 : Int) < (↑s.size : Int)) then (bif decide (byteAt s (0 : Nat) = (48 : Int)) then (bif decide ((1 : Int) < (↑s.size : Int)) then some (.tup [(.agg [(.val (.bool false)), (.val (.string (ByteArray.mk #[])))]), (.val (.int .i64 3))]) else q_2) else q_2) else none)); letI q_3 := (strSub s (1 : Nat) s.size); letI q_4 := (φ (0 : Int) q_3 true [] (0 : Int) false (ByteArray.mk #[]));
    (callA Try.prog ⟨CPa S, fun _ => false, LL_pX κ φ noL⟩ 10 10 16 [.val (.string s)] = (bif decide ((65536 : Int) < (↑s.size : Int)) then some (.tup [(.agg [(.val (.bool false)), (.val (.string (ByteArray.mk #[])))]), (.val (.int .i64 4))]) else (bif decide ((1 : Int) ≤ (↑s.size : Int)) then (bif decide ((1 : Int) ≤ (↑s.size : Int)) then (bif !strEq (strSub s (0 : Nat) (1 : Nat)) (ByteArray.mk #[(45 : UInt8)]) then q_1 else (bif decide ((1 : Int) ≤ (↑s.size : Int)) then (bif strEq q_3 (ByteArray.mk #[]) then some (.tup [(.agg [(.val (.bool false)), (.val (.string (ByteArray.mk #[])))]), (.val (.int .i64 3))]) else (bif decide ((0 : Int) < (↑q_3.size : Int)) then (bif decide (byteAt q_3 (0 : Nat) = (48 : Int)) then (bif decide ((1 : Int) < (↑q_3.size : Int)) then some (.tup [(.agg [(.val (.bool false)), (.val (.string (ByteArray.mk #[])))]), (.val (.int .i64 3))]) else some (.tup [(.agg [(.val (.bool false)), (.val (.string (ByteArray.mk #[])))]), (.val (.int .i64 3))])) else (bif κ (0 : Int) q_3 true [] (0 : Int) false (ByteArray.mk #[]) then some (.tup [(.agg [(.val (.bool (q_4.snd.snd.snd.fst))), (.val (.string (q_4.snd.snd.snd.snd)))]), (.val (.int .i64 (q_4.fst)))]) else none)) else none)) else none)) else none) else q_1))) := by kernel_rfl
theorem CPa_ok : Meets Try.prog (CPa sg0) := (meets_none _).add ePack
theorem okr_dec {n i : Nat} (h : n < 10 ^ i) (hi : i ≤ 1000000) : sg0.okr (toL n).length (lim (toL n)) = true := okr_row (by have := bs_dec h; omega)
theorem parse_ok (s : ByteArray) (h : 65536 < s.size ∨ ∀ l, l < (dgsT s).size → okd (dgsT s) l) : callA Try.prog ⟨CPa sg0, fun _ => false, LL_pO cond_pO phi_pO noL⟩ 10 10 16 [.val (.string s)] = some (.tup [sg0.int (pvT s), .val (.int .i64 (pkT s))]) := by
  rw [parse_g]
  by_cases h0 : 65536 < s.size
  · rw [dT (show (65536 : Int) < (s.size : Int) by omega), pkT_lim h0, pvT_lim h0, int_zero]; rfl
  have ho := h.resolve_left h0
  rw [dF (show ¬ (65536 : Int) < (s.size : Int) by omega)]
  have loopv : ∀ (d : ByteArray) (ng : Bool), d.size ≤ 65536 → (∀ l, l < d.size → okd d l) → cond_pO 0 d ng [] 0 false (ByteArray.mk #[]) = true ∧ (phi_pO 0 d ng [] 0 false (ByteArray.mk #[])).1 = toL (vT d d.size) ∧ sg0.okr (toL (vT d d.size)).length (lim (toL (vT d d.size))) = true := by
    intro d ng h1 h2
    have hq : pre_pO 0 d ng [] 0 false (ByteArray.mk #[]) := ⟨rfl, rfl, by omega, h2⟩
    exact ⟨cond_pO_eq _ _ _ _ _ _ _ hq, (phi_pO_spec _ _ _ _ _ _ _ hq).2, okr_dec (vT_lt h2) (by omega)⟩
  simp only [strEq_sz, size_sub1]
  by_cases hs : sgnT s = true
  · have hd : dgsT s = strSub s 1 s.size := by unfold dgsT; rw [hs]; rfl
    have hs' := hs
    unfold sgnT at hs'
    rw [Bool.and_eq_true, decide_eq_true_eq] at hs'
    have hsz : (strSub s 1 s.size).size = s.size - 1 := size_sub1 s
    rw [hs'.2, dT (show (1 : Int) ≤ (s.size : Int) by omega)]
    by_cases h1 : s.size - 1 = 0
    · have hb : ¬ goodT s := fun g => by have := g.1; rw [hd, hsz] at this; omega
      rw [dT h1, pkT_bad h0 hb, pvT_bad hb, int_zero]; rfl
    · rw [dF h1, dT (show (0 : Int) < ((s.size - 1 : Nat) : Int) by omega)]
      by_cases h2 : byteAt (strSub s 1 s.size) 0 = 48
      · have hb : ¬ goodT s := fun g => g.2.2 ⟨by rw [hd]; exact h2, .inr hs⟩
        rw [dT h2, pkT_bad h0 hb, pvT_bad hb, int_zero]
        by_cases h3 : (1 : Int) < ((s.size - 1 : Nat) : Int)
        · rw [dT h3]; rfl
        · rw [dF h3]; rfl
      · have g : goodT s := ⟨by rw [hd, hsz]; omega, ho, fun k => h2 (by rw [← hd]; exact k.1)⟩
        rw [hd] at ho
        obtain ⟨c1, c2, c3⟩ := loopv (strSub s 1 s.size) true (by omega) ho
        rw [dF h2, c1, c2, num_toL', c3, pkT_good h0 g, pvT_good h0 g, hs, hd]; rfl
  · have hd : dgsT s = s := by unfold dgsT; rw [Bool.not_eq_true] at hs; rw [hs]; rfl
    rw [hd] at ho
    have key : (bif decide (s.size = 0) then some (AV.tup [(.agg [(.val (.bool false)), (.val (.string (ByteArray.mk #[])))]), (.val (.int .i64 3))]) else (bif decide ((0 : Int) < (s.size : Int)) then (bif decide (byteAt s (0 : Nat) = (48 : Int)) then (bif decide ((1 : Int) < (s.size : Int)) then some (.tup [(.agg [(.val (.bool false)), (.val (.string (ByteArray.mk #[])))]), (.val (.int .i64 3))]) else (bif cond_pO (0 : Int) s false [] (0 : Int) false (ByteArray.mk #[]) then (bif sg0.okr (phi_pO (0 : Int) s false [] (0 : Int) false (ByteArray.mk #[])).1.length (lim (phi_pO (0 : Int) s false [] (0 : Int) false (ByteArray.mk #[])).1) then some (.tup [(.agg [(.val (.bool (sg0.ng (sg0.sg false (sg0.num (phi_pO (0 : Int) s false [] (0 : Int) false (ByteArray.mk #[])).1.length (lim (phi_pO (0 : Int) s false [] (0 : Int) false (ByteArray.mk #[])).1)))))), (.val (.string (sg0.ms (sg0.sg false (sg0.num (phi_pO (0 : Int) s false [] (0 : Int) false (ByteArray.mk #[])).1.length (lim (phi_pO (0 : Int) s false [] (0 : Int) false (ByteArray.mk #[])).1))))))]), (.val (.int .i64 0))]) else none) else none)) else (bif cond_pO (0 : Int) s false [] (0 : Int) false (ByteArray.mk #[]) then (bif sg0.okr (phi_pO (0 : Int) s false [] (0 : Int) false (ByteArray.mk #[])).1.length (lim (phi_pO (0 : Int) s false [] (0 : Int) false (ByteArray.mk #[])).1) then some (.tup [(.agg [(.val (.bool (sg0.ng (sg0.sg false (sg0.num (phi_pO (0 : Int) s false [] (0 : Int) false (ByteArray.mk #[])).1.length (lim (phi_pO (0 : Int) s false [] (0 : Int) false (ByteArray.mk #[])).1)))))), (.val (.string (sg0.ms (sg0.sg false (sg0.num (phi_pO (0 : Int) s false [] (0 : Int) false (ByteArray.mk #[])).1.length (lim (phi_pO (0 : Int) s false [] (0 : Int) false (ByteArray.mk #[])).1))))))]), (.val (.int .i64 0))]) else none) else none)) else none)) = some (.tup [sg0.int (pvT s), .val (.int .i64 (pkT s))]) := by
      by_cases h1 : s.size = 0
      · have hb : ¬ goodT s := fun g => by have := g.1; rw [hd] at this; omega
        rw [dT h1, pkT_bad h0 hb, pvT_bad hb, int_zero]; rfl
      · rw [dF h1, dT (show (0 : Int) < (s.size : Int) by omega)]
        obtain ⟨c1, c2, c3⟩ := loopv s false (by omega) ho
        by_cases h3 : (1 : Int) < (s.size : Int)
        · by_cases h2 : byteAt s 0 = 48
          · have hb : ¬ goodT s := fun g => g.2.2 ⟨by rw [hd]; exact h2, .inl (by rw [hd]; omega)⟩
            rw [dT h2, dT h3, pkT_bad h0 hb, pvT_bad hb, int_zero]; rfl
          · have g : goodT s := ⟨by rw [hd]; omega, by rw [hd]; exact ho, fun k => h2 (by rw [← hd]; exact k.1)⟩
            rw [dF h2, c1, c2, num_toL', c3, pkT_good h0 g, pvT_good h0 g, Bool.eq_false_iff.2 hs, hd]; rfl
        · have g : goodT s := ⟨by rw [hd]; omega, by rw [hd]; exact ho, fun k => by
            rcases k.2 with k | k
            · rw [hd] at k; omega
            · exact hs k⟩
          rw [dF h3, c1, c2, num_toL', c3, pkT_good h0 g, pvT_good h0 g, Bool.eq_false_iff.2 hs, hd]
          cases decide (byteAt s 0 = 48) <;> rfl
    by_cases h1 : s.size = 0
    · rw [dF (show ¬ (1 : Int) ≤ (s.size : Int) by omega)]; exact key
    · have h2 : strEq (strSub s 0 1) (ByteArray.mk #[45]) = false := by
        unfold sgnT at hs
        rw [dT (show 0 < s.size by omega), Bool.true_and, Bool.not_eq_true] at hs
        exact hs
      rw [dT (show (1 : Int) ≤ (s.size : Int) by omega), h2]; exact key
theorem first_bad {P : Nat → Prop} : ∀ n, (∃ l, l < n ∧ ¬ P l) → ∃ m, m < n ∧ (∀ l, l < m → P l) ∧ ¬ P m
  | 0, ⟨l, h, _⟩ => by omega
  | n + 1, ⟨l, h, hb⟩ => by
    by_cases hk : ∃ l, l < n ∧ ¬ P l
    · obtain ⟨m, h1, h2, h3⟩ := first_bad n hk
      exact ⟨m, by omega, h2, h3⟩
    · have h2 : ∀ k, k < n → P k := fun k hk2 => Classical.byContradiction fun hn => hk ⟨k, hk2, hn⟩
      refine ⟨n, Nat.lt_succ_self n, h2, ?_⟩
      have : l = n := by
        rcases Nat.lt_or_ge l n with h3 | h3
        · exact absurd (h2 l h3) hb
        · omega
      rw [← this]; exact hb
theorem parse_bad (s : ByteArray) (h0 : ¬ 65536 < s.size) (hb : ∃ l, l < (dgsT s).size ∧ ¬ okd (dgsT s) l) : callA Try.prog ⟨CPa sg0, fun _ => false, LL_pX cond_pX phi_pX noL⟩ 10 10 16 [.val (.string s)] = some (.tup [sg0.int (pvT s), .val (.int .i64 (pkT s))]) := by
  rw [parse_b]
  have hg : ¬ goodT s := fun g => by
    obtain ⟨l, h1, h2⟩ := hb
    exact h2 (g.2.1 l h1)
  rw [dF (show ¬ (65536 : Int) < (s.size : Int) by omega), pkT_bad h0 hg, pvT_bad hg, int_zero]
  have loopv : ∀ (d : ByteArray) (ng : Bool), d.size ≤ 65536 → (∃ l, l < d.size ∧ ¬ okd d l) → cond_pX 0 d ng [] 0 false (ByteArray.mk #[]) = true ∧ (phi_pX 0 d ng [] 0 false (ByteArray.mk #[])).1 = 3 ∧ (phi_pX 0 d ng [] 0 false (ByteArray.mk #[])).2.2.2.1 = false ∧ (phi_pX 0 d ng [] 0 false (ByteArray.mk #[])).2.2.2.2 = ByteArray.mk #[] := by
    intro d ng h1 h2
    have hq : pre_pX 0 d ng [] 0 false (ByteArray.mk #[]) := ⟨rfl, rfl, by omega, first_bad _ h2⟩
    exact ⟨cond_pX_eq _ _ _ _ _ _ _ hq, (phi_pX_spec _ _ _ _ _ _ _ hq).2⟩
  simp only [strEq_sz, size_sub1]
  by_cases hs : sgnT s = true
  · have hd : dgsT s = strSub s 1 s.size := by unfold dgsT; rw [hs]; rfl
    have hs' := hs
    unfold sgnT at hs'
    rw [Bool.and_eq_true, decide_eq_true_eq] at hs'
    have hsz : (strSub s 1 s.size).size = s.size - 1 := size_sub1 s
    rw [hd] at hb
    obtain ⟨c1, c2, c3, c4⟩ := loopv (strSub s 1 s.size) true (by omega) hb
    have h1 : ¬ s.size - 1 = 0 := by obtain ⟨l, h, _⟩ := hb; omega
    rw [hs'.2, dT (show (1 : Int) ≤ (s.size : Int) by omega), dF h1, dT (show (0 : Int) < ((s.size - 1 : Nat) : Int) by omega), c1, c2, c3, c4]
    cases decide (byteAt (strSub s 1 s.size) 0 = 48) <;> cases decide ((1 : Int) < ((s.size - 1 : Nat) : Int)) <;> rfl
  · have hd : dgsT s = s := by unfold dgsT; rw [Bool.not_eq_true] at hs; rw [hs]; rfl
    rw [hd] at hb
    obtain ⟨c1, c2, c3, c4⟩ := loopv s false (by omega) hb
    have h1 : ¬ s.size = 0 := by obtain ⟨l, h, _⟩ := hb; omega
    have h2 : strEq (strSub s 0 1) (ByteArray.mk #[45]) = false := by
      unfold sgnT at hs
      rw [dT (show 0 < s.size by omega), Bool.true_and, Bool.not_eq_true] at hs
      exact hs
    rw [dT (show (1 : Int) ≤ (s.size : Int) by omega), h2, dF h1, dT (show (0 : Int) < (s.size : Int) by omega), c1, c2, c3, c4]
    cases decide (byteAt s 0 = 48) <;> cases decide ((1 : Int) < (s.size : Int)) <;> rfl
theorem eParse : Entry Try.prog 16 (tPrs sg0 pvT pkT) := by
  intro args r h
  unfold tPrs at h
  split at h
  · rename_i s
    simp only [Option.some.injEq, Prod.mk.injEq, true_and] at h
    subst h
    intro B w xs hB hx
    by_cases hc : 65536 < s.size ∨ ∀ l, l < (dgsT s).size → okd (dgsT s) l
    · exact callA_sound CPa_ok (LL_pO_ok LOk.none).ok mixed (by kernel_rfl) (parse_ok s hc) B w xs hB hx
    · have h0 : ¬ 65536 < s.size := fun h => hc (.inl h)
      have hb : ∃ l, l < (dgsT s).size ∧ ¬ okd (dgsT s) l := Classical.byContradiction fun hn => hc (.inr fun l hl => Classical.byContradiction fun hk => hn ⟨l, hl, hk⟩)
      exact callA_sound CPa_ok (LL_pX_ok LOk.none).ok mixed (by kernel_rfl) (parse_bad s h0 hb) B w xs hB hx
  · cases h
end
end Go.Proofs.Ytibaendebbicjaa.L
namespace Go.Proofs.Ytibaendebbicjaa.L
open Go Go.V Go.RowKit Go.Proofs.Ytibaendebbicjaa.Sp Go.Proofs.Ytibaendebbicjaa.F
open Go.Proofs (Try.prog)
noncomputable section
theorem byteAt_list (s : ByteArray) (i : Nat) : byteAt s i = (bytesI s).getD i 0 := by
  unfold byteAt bytesI
  rw [List.getD_eq_getElem?_getD, List.getD_eq_getElem?_getD, List.getElem?_map]
  cases s.data.toList[i]? <;> rfl
theorem bytes_of {l : List Int} (h : okb l) : bytesI (ofBytes l) = l := by
  unfold bytesI ofBytes
  show (l.map fun z => UInt8.ofNat z.toNat).map (fun b => (b.toNat : Int)) = l
  rw [List.map_map]
  induction l with
  | nil => rfl
  | cons x l ih =>
    obtain ⟨c, hc, rfl⟩ := h x List.mem_cons_self
    rw [List.map_cons, ih (fun z hz => h z (List.mem_cons_of_mem _ hz))]
    refine congrArg (· :: l) ?_
    show (((UInt8.ofNat ((c : Int)).toNat).toNat : Nat) : Int) = (c : Int)
    rw [Int.toNat_natCast, UInt8.toNat_ofNat', Nat.mod_eq_of_lt (by omega)]
theorem bytes_sub1 (s : ByteArray) : bytesI (strSub s 1 s.size) = (bytesI s).drop 1 := by
  unfold bytesI
  show ((s.data.toList.drop 1).take (s.size - 1)).map _ = _
  have hl : (s.data.toList.drop 1).length = s.size - 1 := by rw [List.length_drop, Array.length_toList]; rfl
  rw [List.take_of_length_le (by rw [hl]; exact Nat.le_refl _), List.map_drop]
theorem getD_rev {l : List Int} {i : Nat} (h : i < l.length) : l.reverse.getD i 0 = l.getD (l.length - 1 - i) 0 := by
  rw [List.getD_eq_getElem?_getD, List.getD_eq_getElem?_getD, List.getElem?_reverse h]
def rdg (n : Nat) : List Int := (dp (dl n) n).reverse
theorem rd_len (n : Nat) : (rdg n).length = dl n := by unfold rdg; rw [List.length_reverse, dp_len]
theorem rd_ok (n : Nat) : okb (rdg n) := dp_u8 _ _
theorem rd_get {n i : Nat} (h : i < dl n) : (rdg n).getD i 0 = ((n / 10 ^ (dl n - 1 - i) % 10 + 48 : Nat) : Int) := by
  unfold rdg
  rw [getD_rev (by rw [dp_len]; exact h), dp_len, dp_get _ _ _ (by omega)]
theorem rd_head {n : Nat} (h : n ≠ 0) : (rdg n).getD 0 0 ≠ 48 ∧ 48 ≤ (rdg n).getD 0 0 := by
  have hp := dl_pos h
  rw [rd_get hp]
  have ht := dp_top h
  rw [dp_get _ _ _ (by omega)] at ht
  exact ⟨ht, by omega⟩
theorem rd_digs {n : Nat} {d : ByteArray} (hd : bytesI d = rdg n) : d.size = dl n ∧ (∀ i, i < dl n → okd d i) ∧ ∀ i, i ≤ dl n → vT d i = n / 10 ^ (dl n - i) := by
  have hsz : d.size = dl n := by rw [← bytesI_len, hd, rd_len]
  have hb : ∀ i, i < dl n → byteAt d i = ((n / 10 ^ (dl n - 1 - i) % 10 + 48 : Nat) : Int) := fun i hi => by rw [byteAt_list, hd, rd_get hi]
  refine ⟨hsz, fun i hi => ?_, fun i => ?_⟩
  · unfold okd; rw [hb i hi]; omega
  · induction i with
    | zero =>
      intro _
      rw [Nat.sub_zero, Nat.div_eq_of_lt (dl_lt n)]; rfl
    | succ i ih =>
      intro hi
      show vT d i * 10 + dig d i = _
      have hdg : dig d i = n / 10 ^ (dl n - 1 - i) % 10 := by unfold dig; rw [hb i (by omega)]; omega
      have e : n / 10 ^ (dl n - i) = n / 10 ^ (dl n - 1 - i) / 10 := by rw [Nat.div_div_eq_div_mul, ← Nat.pow_succ, show (dl n - 1 - i).succ = dl n - i by omega]
      rw [ih (by omega), hdg, e, show dl n - (i + 1) = dl n - 1 - i by omega]
      omega
theorem txt_ne {z : Int} (h : z ≠ 0) : txt z = ofBytes ((if z < 0 then [45] else []) ++ rdg z.natAbs) := by unfold txt rdg; rw [if_neg h]
theorem pre_ok (z : Int) (n : Nat) : okb ((if z < 0 then [45] else []) ++ rdg n) := by
  intro x hx
  rcases List.mem_append.1 hx with hx | hx
  · split at hx
    · rw [List.mem_singleton] at hx; exact ⟨45, by decide, hx⟩
    · cases hx
  · exact rd_ok n x hx
theorem sgn_at {s : ByteArray} : sgnT s = (decide (0 < s.size) && decide (byteAt s 0 = 45)) := by
  unfold sgnT
  by_cases h : 0 < s.size
  · rw [dT h, sub_head h]
  · rw [dF h]; rfl
theorem txt_parts {z : Int} (h : z ≠ 0) : sgnT (txt z) = decide (z < 0) ∧ bytesI (dgsT (txt z)) = rdg z.natAbs ∧ (txt z).size = dl z.natAbs + (if z < 0 then 1 else 0) := by
  have hn : z.natAbs ≠ 0 := by omega
  have hp := dl_pos hn
  obtain ⟨h1, h2⟩ := rd_head hn
  have hb : bytesI (txt z) = (if z < 0 then [45] else []) ++ rdg z.natAbs := by rw [txt_ne h, bytes_of (pre_ok _ _)]
  have hsz : (txt z).size = dl z.natAbs + (if z < 0 then 1 else 0) := by
    rw [← bytesI_len, hb, List.length_append, rd_len]
    split <;> simp only [List.length_cons, List.length_nil] <;> omega
  have hs : sgnT (txt z) = decide (z < 0) := by
    rw [sgn_at, byteAt_list, hb, dT (show 0 < (txt z).size by rw [hsz]; omega), Bool.true_and]
    by_cases hz : z < 0
    · rw [if_pos hz, dT hz]; rfl
    · rw [if_neg hz, dF hz, List.nil_append, dF (by omega)]
  refine ⟨hs, ?_, hsz⟩
  unfold dgsT
  rw [hs]
  by_cases hz : z < 0
  · rw [dT hz, cond_true, bytes_sub1, hb, if_pos hz]; rfl
  · rw [dF hz, cond_false, hb, if_neg hz]; rfl
theorem zero_good : goodT ⟨#[48]⟩ ∧ pvT ⟨#[48]⟩ = 0 := by
  have hs : sgnT ⟨#[48]⟩ = false := rfl
  have hd : dgsT ⟨#[48]⟩ = ⟨#[48]⟩ := rfl
  have h1 : okd ⟨#[48]⟩ 0 := by unfold okd; decide
  have g : goodT ⟨#[48]⟩ := by
    unfold goodT
    rw [hd, hs]
    refine ⟨by decide, fun l hl => ?_, fun k => ?_⟩
    · have : l = 0 := by
        have : (ByteArray.mk #[48]).size = 1 := rfl
        omega
      rw [this]; exact h1
    · rcases k.2 with k | k
      · exact absurd k (by decide)
      · cases k
  refine ⟨g, ?_⟩
  rw [pvT_good (by decide) g, hs, hd]
  rfl
theorem read_txt {z : Int} (h : dl z.natAbs ≤ 60000) : goodT (txt z) ∧ pvT (txt z) = z ∧ pkT (txt z) = 0 ∧ (txt z).size ≤ 60001 := by
  by_cases h0 : z = 0
  · have e : txt z = ⟨#[48]⟩ := by unfold txt; rw [if_pos h0]
    rw [e, h0]
    exact ⟨zero_good.1, zero_good.2, pkT_good (by decide) zero_good.1, by decide⟩
  · obtain ⟨h1, h2, h3⟩ := txt_parts h0
    have hn : z.natAbs ≠ 0 := by omega
    have hp := dl_pos hn
    obtain ⟨d1, d2, d3⟩ := rd_digs h2
    obtain ⟨q1, _⟩ := rd_head hn
    have hsz : (txt z).size ≤ 60001 := by rw [h3]; split <;> omega
    have g : goodT (txt z) := by
      refine ⟨by omega, by rw [d1]; exact d2, fun k => q1 ?_⟩
      rw [← h2, ← byteAt_list]; exact k.1
    have hv : vT (dgsT (txt z)) (dgsT (txt z)).size = z.natAbs := by rw [d1, d3 _ (Nat.le_refl _), Nat.sub_self, Nat.pow_zero, Nat.div_one]
    refine ⟨g, ?_, pkT_good (by omega) g, hsz⟩
    rw [pvT_good (by omega) g, hv, h1]
    show (if decide (z < 0) = true then -((z.natAbs : Nat) : Int) else ((z.natAbs : Nat) : Int)) = z
    by_cases hz : z < 0
    · rw [if_pos (decide_eq_true hz)]; omega
    · rw [if_neg (by rw [decide_eq_true_eq]; exact hz)]; omega
end
end Go.Proofs.Ytibaendebbicjaa.L
namespace Go.Proofs.Ytibaendebbicjaa.L
open Go Go.V Go.RowKit Go.Shelf Go.Proofs.Ytibaendebbicjaa.Sp
open Go.Proofs (Try.prog)
noncomputable section
def rhoI : Ren := ⟨fun n => bif n == 217 then 76 else 85, fun t => bif t == 3 then 3 else bif t == 5 then 5 else 9, fun g => g⟩
theorem laysI : Lays.n217 Try.prog rhoI where
  mixed := mixed
  f217 := by kernel_rfl
  f266 := by kernel_rfl
  t3 := by kernel_rfl
  a3 := fun w => by kernel_rfl
  z3 := fun w => by kernel_rfl
  v3 := fun w => by kernel_rfl
  t5 := by kernel_rfl
  a5 := fun w => by kernel_rfl
  z5 := fun w => by kernel_rfl
  v5 := fun w => by kernel_rfl
  t9 := by kernel_rfl
  a9 := fun w => by kernel_rfl
  z9 := fun w => by kernel_rfl
  v9 := fun w => by kernel_rfl
def ixB (s : ByteArray) (c : Int) : Int := Go.Lib.indexByte s.data.toList c.toNat.toUInt8
def tIdx (ix : ByteArray → Int → Int) : List AV → Option (Bool × AV) := fun args => match args with | [.val (.string s), .val (.int .u8 c)] => some (true, .val (.int .i64 (ix s c))) | _ => none
theorem eIdx : Entry Try.prog 76 (tIdx ixB) := by
  intro args r h
  unfold tIdx at h
  split at h
  · rename_i s c
    simp only [Option.some.injEq, Prod.mk.injEq, true_and] at h
    subst h
    intro B w xs hB hx
    obtain ⟨y, zs, e, h1, y2, zs2, rfl, h2, h3⟩ := hx
    have h3 : zs2 = [] := h3
    subst h3
    have h1 : y = .string s := h1
    have h2 : y2 = .int .u8 c := h2
    subst h1 h2
    have e2 : xs = #[.string s, .int .u8 c] := by cases xs; simp_all
    subst e2
    refine (Any.stringslite_IndexByte laysI s c w).mono ?_
    rintro e w' ⟨rfl, rfl⟩
    exact ⟨_, rfl, Below.refl _ _, rfl⟩
  · cases h
end
end Go.Proofs.Ytibaendebbicjaa.L
namespace Go.Proofs.Ytibaendebbicjaa.L
open Go Go.V Go.RowKit Go.Proofs.Ytibaendebbicjaa.Sp Go.Proofs.Ytibaendebbicjaa.F
open Go.Proofs (Try.prog)
noncomputable section
def CqP (S : Sg) (Z : Qg) (tx : Int → ByteArray) : FuncId → TF := addC 18 (tQParts S Z) (addC 20 (tPrt S tx) (addC 40 (tCompare S) (addC 28 (tOf S) noC)))
theorem qprint_tree (S : Sg) (Z : Qg) (tx : Int → ByteArray) (b : Bool) (n d : ByteArray) : callA Try.prog ⟨CqP S Z tx, fun _ => false, noL⟩ 10 10 7 [.agg [.val (.bool b), .val (.string n), .val (.string d)]] =
    (bif Z.ok n d then (bif S.ok (S.ms (Z.de (Z.qv b n d))) && S.ok (S.ms (1 : Int)) then (bif decide (S.cmz (S.val (S.ng (Z.de (Z.qv b n d))) (S.ms (Z.de (Z.qv b n d)))) (S.val (S.ng (1 : Int)) (S.ms (1 : Int))) = (0 : Int)) then (bif okt (S.ms (Z.nu (Z.qv b n d))) then some (.val (.string (tx (S.val (S.ng (Z.nu (Z.qv b n d))) (S.ms (Z.nu (Z.qv b n d))))))) else none) else (bif okt (S.ms (Z.nu (Z.qv b n d))) then (bif decide ((tx (S.val (S.ng (Z.nu (Z.qv b n d))) (S.ms (Z.nu (Z.qv b n d))))).size + (1 : Nat) ≤ (9223372036854775807 : Nat)) then (bif okt (S.ms (Z.de (Z.qv b n d))) then (bif decide ((strCat (tx (S.val (S.ng (Z.nu (Z.qv b n d))) (S.ms (Z.nu (Z.qv b n d))))) (ByteArray.mk #[(47 : UInt8)])).size + (tx (S.val (S.ng (Z.de (Z.qv b n d))) (S.ms (Z.de (Z.qv b n d))))).size ≤ (9223372036854775807 : Nat)) then some (.val (.string (strCat (strCat (tx (S.val (S.ng (Z.nu (Z.qv b n d))) (S.ms (Z.nu (Z.qv b n d))))) (ByteArray.mk #[(47 : UInt8)])) (tx (S.val (S.ng (Z.de (Z.qv b n d))) (S.ms (Z.de (Z.qv b n d)))))))) else none) else none) else none) else none)) else none) else none) := by kernel_rfl
def tQPrt (Z : Qg) (qx : Rat → ByteArray) : TF := fun args => match args with | [.agg [.val (.bool b), .val (.string n), .val (.string d)]] => some (decide (n.size ≤ 100000) && decide (d.size ≤ 100000), .val (.string (qx (Z.qv b n d)))) | _ => none
def CqA (S : Sg) (X : Xg) (Z : Qg) (qx : Rat → ByteArray) (pv pk : ByteArray → Int) (ix : ByteArray → Int → Int) : FuncId → TF := addC 16 (tPrs S pv pk) (addC 17 (tQNew S X Z) (addC 7 (tQPrt Z qx) (addC 76 (tIdx ix) noC)))
theorem qparse_tree (S : Sg) (X : Xg) (Z : Qg) (qx : Rat → ByteArray) (pv pk : ByteArray → Int) (ix : ByteArray → Int → Int) (s : ByteArray) : letI q_6 := (strSub s (0 : Nat) (ix s (47 : Int)).toNat); letI q_4 := (strSub s (ix s (47 : Int) + (1 : Int)).toNat s.size); letI q_1 := (Z.fr (S.val (S.ng (pv q_6)) (S.ms (pv q_6))) (S.val (S.ng (pv q_4)) (S.ms (pv q_4)))); letI q_7 := (strSub s (1 : Nat) s.size); letI q_2 := (Z.fr (S.val (S.ng (pv (strSub s (0 : Nat) (0 : Nat)))) (S.ms (pv (strSub s (0 : Nat) (0 : Nat))))) (S.val (S.ng (pv q_7)) (S.ms (pv q_7)))); letI q_5 := (ByteArray.mk #[(49 : UInt8)]); letI q_3 := (Z.fr (S.val (S.ng (pv s)) (S.ms (pv s))) (S.val (S.ng (pv q_5)) (S.ms (pv q_5))));
    (callA Try.prog ⟨CqA S X Z qx pv pk ix, fun _ => false, noL⟩ 10 10 6 [.val (.string s)] = (bif decide ((65536 : Int) < (↑s.size : Int)) then some (.tup [(.agg [(.val (.bool false)), (.val (.string (ByteArray.mk #[]))), (.val (.string (ByteArray.mk #[])))]), (.val (.int .i64 4))]) else (bif strEq (ByteArray.mk #[(47 : UInt8)]) s then (bif decide ((1 : Int) ≤ (↑s.size : Int)) then (bif !decide (pk (strSub s (0 : Nat) (0 : Nat)) = (0 : Int)) then some (.tup [(.agg [(.val (.bool false)), (.val (.string (ByteArray.mk #[]))), (.val (.string (ByteArray.mk #[])))]), (.val (.int .i64 3))]) else (bif !decide (pk q_7 = (0 : Int)) then some (.tup [(.agg [(.val (.bool false)), (.val (.string (ByteArray.mk #[]))), (.val (.string (ByteArray.mk #[])))]), (.val (.int .i64 3))]) else (bif S.ok (S.ms (pv (strSub s (0 : Nat) (0 : Nat)))) && S.ok (S.ms (pv q_7)) then (bif !decide (X.de (S.val (S.ng (pv q_7)) (S.ms (pv q_7))) = (0 : Int)) then some (.tup [(.agg [(.val (.bool false)), (.val (.string (ByteArray.mk #[]))), (.val (.string (ByteArray.mk #[])))]), (.val (.int .i64 3))]) else (bif decide ((Z.qs q_2).size ≤ (100000 : Nat)) && decide ((Z.qd q_2).size ≤ (100000 : Nat)) then (bif !strEq (qx (Z.qv (Z.qn q_2) (Z.qs q_2) (Z.qd q_2))) s then some (.tup [(.agg [(.val (.bool false)), (.val (.string (ByteArray.mk #[]))), (.val (.string (ByteArray.mk #[])))]), (.val (.int .i64 3))]) else some (.tup [(.agg [(.val (.bool (Z.qn q_2))), (.val (.string (Z.qs q_2))), (.val (.string (Z.qd q_2)))]), (.val (.int .i64 0))])) else none)) else none))) else none) else (bif decide ((0 : Int) ≤ ix s (47 : Int)) then (bif decide ((0 : Int) ≤ ix s (47 : Int)) && decide (ix s (47 : Int) ≤ (↑s.size : Int)) then (bif inR IntKind.i64 (ix s (47 : Int) + (1 : Int)) then (bif decide ((0 : Int) ≤ ix s (47 : Int) + (1 : Int)) && decide (ix s (47 : Int) + (1 : Int) ≤ (↑s.size : Int)) then (bif !decide (pk q_6 = (0 : Int)) then some (.tup [(.agg [(.val (.bool false)), (.val (.string (ByteArray.mk #[]))), (.val (.string (ByteArray.mk #[])))]), (.val (.int .i64 3))]) else (bif !decide (pk q_4 = (0 : Int)) then some (.tup [(.agg [(.val (.bool false)), (.val (.string (ByteArray.mk #[]))), (.val (.string (ByteArray.mk #[])))]), (.val (.int .i64 3))]) else (bif S.ok (S.ms (pv q_6)) && S.ok (S.ms (pv q_4)) then (bif !decide (X.de (S.val (S.ng (pv q_4)) (S.ms (pv q_4))) = (0 : Int)) then some (.tup [(.agg [(.val (.bool false)), (.val (.string (ByteArray.mk #[]))), (.val (.string (ByteArray.mk #[])))]), (.val (.int .i64 3))]) else (bif decide ((Z.qs q_1).size ≤ (100000 : Nat)) && decide ((Z.qd q_1).size ≤ (100000 : Nat)) then (bif !strEq (qx (Z.qv (Z.qn q_1) (Z.qs q_1) (Z.qd q_1))) s then some (.tup [(.agg [(.val (.bool false)), (.val (.string (ByteArray.mk #[]))), (.val (.string (ByteArray.mk #[])))]), (.val (.int .i64 3))]) else some (.tup [(.agg [(.val (.bool (Z.qn q_1))), (.val (.string (Z.qs q_1))), (.val (.string (Z.qd q_1)))]), (.val (.int .i64 0))])) else none)) else none))) else none) else none) else none) else (bif !decide (pk s = (0 : Int)) then some (.tup [(.agg [(.val (.bool false)), (.val (.string (ByteArray.mk #[]))), (.val (.string (ByteArray.mk #[])))]), (.val (.int .i64 3))]) else (bif !decide (pk q_5 = (0 : Int)) then some (.tup [(.agg [(.val (.bool false)), (.val (.string (ByteArray.mk #[]))), (.val (.string (ByteArray.mk #[])))]), (.val (.int .i64 3))]) else (bif S.ok (S.ms (pv s)) && S.ok (S.ms (pv q_5)) then (bif !decide (X.de (S.val (S.ng (pv q_5)) (S.ms (pv q_5))) = (0 : Int)) then some (.tup [(.agg [(.val (.bool false)), (.val (.string (ByteArray.mk #[]))), (.val (.string (ByteArray.mk #[])))]), (.val (.int .i64 3))]) else (bif decide ((Z.qs q_3).size ≤ (100000 : Nat)) && decide ((Z.qd q_3).size ≤ (100000 : Nat)) then (bif !strEq (qx (Z.qv (Z.qn q_3) (Z.qs q_3) (Z.qd q_3))) s then some (.tup [(.agg [(.val (.bool false)), (.val (.string (ByteArray.mk #[]))), (.val (.string (ByteArray.mk #[])))]), (.val (.int .i64 3))]) else some (.tup [(.agg [(.val (.bool (Z.qn q_3))), (.val (.string (Z.qs q_3))), (.val (.string (Z.qd q_3)))]), (.val (.int .i64 0))])) else none)) else none))))))) := by kernel_rfl
end
end Go.Proofs.Ytibaendebbicjaa.L
namespace Go.Proofs.Ytibaendebbicjaa.L
open Go Go.V Go.RowKit Go.Proofs.Ytibaendebbicjaa.Sp Go.Proofs.Ytibaendebbicjaa.F
open Go.Proofs (Try.prog)
noncomputable section
def qxt (q : Rat) : ByteArray := if q.den = 1 then txt q.num else strCat (strCat (txt q.num) (ByteArray.mk #[47])) (txt (q.den : Int))
theorem txt_size (z : Int) : (txt z).size ≤ dl z.natAbs + 1 := by
  by_cases h : z = 0
  · rw [h]; exact Nat.le_refl _
  · obtain ⟨_, _, h3⟩ := txt_parts h
    rw [h3]
    split <;> omega
theorem txt_size2 (z : Int) : dl z.natAbs ≤ (txt z).size := by
  by_cases h : z = 0
  · rw [h]; exact Nat.zero_le _
  · obtain ⟨_, _, h3⟩ := txt_parts h
    rw [h3]
    split <;> omega
theorem dl_bs (n : Nat) : dl n ≤ 9 * bs n := by
  refine dl_le (Nat.lt_of_lt_of_le (bs_lt n) ?_)
  rw [Nat.pow_mul]
  exact Nat.pow_le_pow_left (by decide) _
theorem size_cat (a b : ByteArray) : (strCat a b).size = a.size + b.size := by
  show ((a.data.toList ++ b.data.toList).toArray).size = _
  rw [List.size_toArray, List.length_append, Array.length_toList, Array.length_toList]; rfl
theorem CqP_ok : Meets Try.prog (CqP sg0 sq0 txt) := ((((meets_none _).add eOf).add eCompare).add ePrint).add eQParts
theorem cmz_one (n : Nat) : sg0.cmz ((n : Nat) : Int) 1 = 0 ↔ n = 1 := by
  show cmpZ ((n : Nat) : Int) 1 = 0 ↔ _
  unfold cmpZ
  by_cases h : ((n : Nat) : Int) < 1
  · rw [if_pos h]; exact ⟨fun k => absurd k (by decide), fun k => by omega⟩
  · rw [if_neg h]
    by_cases h2 : (1 : Int) < ((n : Nat) : Int)
    · rw [if_pos h2]; exact ⟨fun k => absurd k (by decide), fun k => by omega⟩
    · rw [if_neg h2]; exact ⟨fun _ => by omega, fun _ => rfl⟩
theorem okt_ms {z : Int} (h : bs z.natAbs ≤ 1000000) : okt (sg0.ms z) = true := decide_eq_true (by rw [size_ms]; exact h)
theorem eQPrint : Entry Try.prog 7 (tQPrt sq0 qxt) := by
  refine entry_of (E := ⟨CqP sg0 sq0 txt, fun _ => false, noL⟩) (u := 10) (d := 10) CqP_ok loops_none mixed (by kernel_rfl) (fun args r h => ?_)
  unfold tQPrt at h
  split at h
  · rename_i b n d
    simp only [Option.some.injEq, Prod.mk.injEq, Bool.and_eq_true, decide_eq_true_eq] at h
    obtain ⟨⟨h1, h2⟩, rfl⟩ := h
    have hz := szq_val b n d
    have hcall := qprint_tree sg0 sq0 txt b n d
    have hnu : ∀ q, sq0.nu q = q.num := fun q => rfl
    have hde : ∀ q, sq0.de q = (q.den : Int) := fun q => rfl
    simp only [hnu, hde, val_ms] at hcall
    rw [hcall, qok_in (by omega) (by omega)]
    generalize sq0.qv b n d = q at *
    have b1 : bs q.num.natAbs ≤ szq q := Nat.le_max_left _ _
    have b2 : bs q.den ≤ szq q := Nat.le_max_right _ _
    have b3 : bs ((q.den : Int)).natAbs ≤ szq q := b2
    have b4 : bs (1 : Int).natAbs ≤ 1 := bs_le (by decide)
    have s1 := txt_size q.num
    have s2 := txt_size (q.den : Int)
    have s3 := dl_bs q.num.natAbs
    have s4 := dl_bs ((q.den : Int)).natAbs
    rw [ok_ms (z := (q.den : Int)) (by omega), ok_ms (z := 1) (by omega), okt_ms (z := q.num) (by omega), okt_ms (z := (q.den : Int)) (by omega), size_cat, dT (show (txt q.num).size + 1 ≤ 9223372036854775807 by omega), dT (show (txt q.num).size + (ByteArray.mk #[(47 : UInt8)]).size + (txt (q.den : Int)).size ≤ 9223372036854775807 by show (txt q.num).size + 1 + _ ≤ _; omega)]
    unfold qxt
    by_cases hd : q.den = 1
    · rw [dT ((cmz_one _).2 hd), if_pos hd]; rfl
    · rw [dF (fun k => hd ((cmz_one _).1 k)), if_neg hd]; rfl
  · cases h
def qE3 : Option AV := some (.tup [(.agg [(.val (.bool false)), (.val (.string (ByteArray.mk #[]))), (.val (.string (ByteArray.mk #[])))]), (.val (.int .i64 3))])
def qtail (S : Sg) (X : Xg) (Z : Qg) (qx : Rat → ByteArray) (pv pk : ByteArray → Int) (s u v : ByteArray) : Option AV :=
  letI q := Z.fr (S.val (S.ng (pv u)) (S.ms (pv u))) (S.val (S.ng (pv v)) (S.ms (pv v)))
  bif !decide (pk u = (0 : Int)) then qE3 else (bif !decide (pk v = (0 : Int)) then qE3 else (bif S.ok (S.ms (pv u)) && S.ok (S.ms (pv v)) then (bif !decide (X.de (S.val (S.ng (pv v)) (S.ms (pv v))) = (0 : Int)) then qE3 else (bif decide ((Z.qs q).size ≤ (100000 : Nat)) && decide ((Z.qd q).size ≤ (100000 : Nat)) then (bif !strEq (qx (Z.qv (Z.qn q) (Z.qs q) (Z.qd q))) s then qE3 else some (.tup [(.agg [(.val (.bool (Z.qn q))), (.val (.string (Z.qs q))), (.val (.string (Z.qd q)))]), (.val (.int .i64 0))])) else none)) else none))
theorem qparse_tree2 (S : Sg) (X : Xg) (Z : Qg) (qx : Rat → ByteArray) (pv pk : ByteArray → Int) (ix : ByteArray → Int → Int) (s : ByteArray) : callA Try.prog ⟨CqA S X Z qx pv pk ix, fun _ => false, noL⟩ 10 10 6 [.val (.string s)] = (bif decide ((65536 : Int) < (s.size : Int)) then some (.tup [(.agg [(.val (.bool false)), (.val (.string (ByteArray.mk #[]))), (.val (.string (ByteArray.mk #[])))]), (.val (.int .i64 4))]) else (bif strEq (ByteArray.mk #[(47 : UInt8)]) s then (bif decide ((1 : Int) ≤ (s.size : Int)) then qtail S X Z qx pv pk s (strSub s 0 0) (strSub s 1 s.size) else none) else (bif decide ((0 : Int) ≤ ix s (47 : Int)) then (bif decide ((0 : Int) ≤ ix s (47 : Int)) && decide (ix s (47 : Int) ≤ (s.size : Int)) then (bif inR IntKind.i64 (ix s (47 : Int) + (1 : Int)) then (bif decide ((0 : Int) ≤ ix s (47 : Int) + (1 : Int)) && decide (ix s (47 : Int) + (1 : Int) ≤ (s.size : Int)) then qtail S X Z qx pv pk s (strSub s 0 (ix s (47 : Int)).toNat) (strSub s (ix s (47 : Int) + (1 : Int)).toNat s.size) else none) else none) else none) else qtail S X Z qx pv pk s s (ByteArray.mk #[(49 : UInt8)])))) := qparse_tree S X Z qx pv pk ix s
theorem CqA_ok : Meets Try.prog (CqA sg0 xg0 sq0 qxt pvT pkT ixB) := ((((meets_none _).add eIdx).add eQPrint).add eQNew).add eParse
theorem bs_pv (s : ByteArray) : bs (pvT s).natAbs ≤ s.size := by
  by_cases h : ¬ 65536 < s.size ∧ goodT s
  · obtain ⟨h1, g⟩ := h
    rw [pvT_good h1 g]
    have h2 := bs_dec (vT_lt g.2.1)
    have h3 : (dgsT s).size ≤ s.size := by
      unfold dgsT
      cases sgnT s
      · exact Nat.le_refl _
      · rw [cond_true, size_sub1]; omega
    have e : (sg0.sg (sgnT s) (vT (dgsT s) (dgsT s).size)).natAbs = vT (dgsT s) (dgsT s).size := by
      show (if sgnT s = true then -((vT (dgsT s) (dgsT s).size : Nat) : Int) else ((vT (dgsT s) (dgsT s).size : Nat) : Int)).natAbs = _
      split <;> omega
    rw [e]
    omega
  · have e : pvT s = 0 := by
      by_cases h1 : 65536 < s.size
      · exact pvT_lim h1
      · exact pvT_bad fun g => h ⟨h1, g⟩
    rw [e]
    have : bs (0 : Int).natAbs ≤ 0 := bs_le (by decide)
    omega
theorem qtail_eq (s u v : ByteArray) (hu : u.size ≤ 20000) (hv : v.size ≤ 20000) : qtail sg0 xg0 sq0 qxt pvT pkT s u v = @ite _ (pkT u = 0 ∧ pkT v = 0 ∧ pvT v ≠ 0 ∧ qxt (Rat.divInt (pvT u) (pvT v)) = s) (Classical.propDecidable _) (some (.tup [sq0.rat (Rat.divInt (pvT u) (pvT v)), .val (.int .i64 0)])) qE3 := by
  have b1 := bs_pv u
  have b2 := bs_pv v
  have hfr : ∀ x y, sq0.fr x y = Rat.divInt x y := fun x y => rfl
  have hde : ∀ y, xg0.de y = if y = 0 then 10 else 0 := fun y => rfl
  unfold qtail
  simp only [val_ms, hfr, hde, qv_rat]
  rw [ok_ms (z := pvT u) (by omega), ok_ms (z := pvT v) (by omega)]
  by_cases h1 : pkT u = 0
  · by_cases h2 : pkT v = 0
    · by_cases h3 : pvT v = 0
      · rw [dT h1, dT h2, if_pos h3, if_neg (show ¬ (pkT u = 0 ∧ pkT v = 0 ∧ pvT v ≠ 0 ∧ qxt (Rat.divInt (pvT u) (pvT v)) = s) from fun h => h.2.2.1 h3)]; rfl
      · have z1 := szq_fr (pvT u) h3
        have z2 := size_qs (Rat.divInt (pvT u) (pvT v))
        have z3 := size_qd (Rat.divInt (pvT u) (pvT v))
        have z4 : bs (Rat.divInt (pvT u) (pvT v)).num.natAbs ≤ szq (Rat.divInt (pvT u) (pvT v)) := Nat.le_max_left _ _
        have z5 : bs (Rat.divInt (pvT u) (pvT v)).den ≤ szq (Rat.divInt (pvT u) (pvT v)) := Nat.le_max_right _ _
        rw [dT h1, dT h2, if_neg h3, dT (show (sq0.qs (Rat.divInt (pvT u) (pvT v))).size ≤ 100000 by omega), dT (show (sq0.qd (Rat.divInt (pvT u) (pvT v))).size ≤ 100000 by omega), strEq_iff]
        by_cases h4 : qxt (Rat.divInt (pvT u) (pvT v)) = s
        · rw [dT h4, if_pos ⟨h1, h2, h3, h4⟩]; rfl
        · rw [dF h4, if_neg (show ¬ (pkT u = 0 ∧ pkT v = 0 ∧ pvT v ≠ 0 ∧ qxt (Rat.divInt (pvT u) (pvT v)) = s) from fun h => h4 h.2.2.2)]; rfl
    · rw [dT h1, dF h2, if_neg (show ¬ (pkT u = 0 ∧ pkT v = 0 ∧ pvT v ≠ 0 ∧ qxt (Rat.divInt (pvT u) (pvT v)) = s) from fun h => h2 h.2.1)]; rfl
  · rw [dF h1, if_neg (show ¬ (pkT u = 0 ∧ pkT v = 0 ∧ pvT v ≠ 0 ∧ qxt (Rat.divInt (pvT u) (pvT v)) = s) from fun h => h1 h.1)]; rfl
theorem ix_none {l : List UInt8} {c : UInt8} (h : c ∉ l) : Go.Lib.indexByte l c = -1 := by
  induction l with
  | nil => rfl
  | cons b l ih =>
    unfold Go.Lib.indexByte
    have h1 : (b == c) = false := by rw [beq_eq_false_iff_ne]; intro e; exact h (by rw [e]; exact List.mem_cons_self)
    rw [h1, ih (fun k => h (List.mem_cons_of_mem _ k))]; rfl
theorem ix_at {l r : List UInt8} {c : UInt8} (h : c ∉ l) : Go.Lib.indexByte (l ++ c :: r) c = (l.length : Nat) := by
  induction l with
  | nil =>
    show Go.Lib.indexByte (c :: r) c = _
    unfold Go.Lib.indexByte
    rw [beq_self_eq_true]; rfl
  | cons b l ih =>
    show Go.Lib.indexByte (b :: (l ++ c :: r)) c = _
    unfold Go.Lib.indexByte
    have h1 : (b == c) = false := by rw [beq_eq_false_iff_ne]; intro e; exact h (by rw [e]; exact List.mem_cons_self)
    have h2 : ((l.length : Int) == -1) = false := by rw [beq_eq_false_iff_ne]; omega
    rw [h1, ih (fun k => h (List.mem_cons_of_mem _ k)), h2]
    show ((l.length : Nat) : Int) + 1 = ((l.length + 1 : Nat) : Int)
    omega
theorem ix_lt (l : List UInt8) (c : UInt8) : Go.Lib.indexByte l c < (l.length : Int) := by
  induction l with
  | nil => show (-1 : Int) < 0; decide
  | cons b l ih =>
    unfold Go.Lib.indexByte
    rw [List.length_cons]
    split
    · omega
    · split
      · omega
      · omega
theorem ixB_lt (s : ByteArray) (c : Int) : ixB s c < (s.size : Int) := by
  have := ix_lt s.data.toList c.toNat.toUInt8
  rw [Array.length_toList] at this
  exact this
theorem no_slash (z : Int) : (47 : UInt8) ∉ (txt z).data.toList := by
  intro h
  have h1 : (47 : Int) ∈ bytesI (txt z) := List.mem_map.2 ⟨47, h, rfl⟩
  by_cases h0 : z = 0
  · rw [h0] at h1
    have e : bytesI (txt 0) = [48] := rfl
    rw [e] at h1
    exact absurd h1 (by decide)
  · rw [txt_ne h0, bytes_of (pre_ok _ _)] at h1
    rcases List.mem_append.1 h1 with h2 | h2
    · split at h2
      · rw [List.mem_singleton] at h2; exact absurd h2 (by decide)
      · cases h2
    · unfold rdg at h2
      obtain ⟨c, hc, e⟩ := dp_dig _ _ _ (List.mem_reverse.1 h2)
      omega
theorem cat_slash (a b : ByteArray) : (strCat (strCat a (ByteArray.mk #[47])) b).data.toList = a.data.toList ++ (47 : UInt8) :: b.data.toList := by
  show (a.data.toList ++ [47]) ++ b.data.toList = _
  rw [List.append_assoc]; rfl
theorem one_good : pkT (ByteArray.mk #[49]) = 0 ∧ pvT (ByteArray.mk #[49]) = 1 := by
  have e : txt 1 = ByteArray.mk #[49] := rfl
  have h := read_txt (z := 1) (by have := dl_le (n := 1) (k := 1) (by decide); show dl 1 ≤ _; omega)
  rw [e] at h
  exact ⟨h.2.2.1, h.2.1⟩
theorem ix47 (s : ByteArray) : ixB s 47 = Go.Lib.indexByte s.data.toList 47 := rfl
theorem qparse_good (q : Rat) (hs : (qxt q).size ≤ 20000) : callA Try.prog ⟨CqA sg0 xg0 sq0 qxt pvT pkT ixB, fun _ => false, noL⟩ 10 10 6 [.val (.string (qxt q))] = some (.tup [sq0.rat q, .val (.int .i64 0)]) := by
  rw [qparse_tree2, dF (show ¬ (65536 : Int) < ((qxt q).size : Int) by omega)]
  by_cases hd : q.den = 1
  · have e : qxt q = txt q.num := by unfold qxt; rw [if_pos hd]
    rw [e] at hs ⊢
    have h1 := txt_size2 q.num
    obtain ⟨_, r2, r3, _⟩ := read_txt (z := q.num) (by omega)
    have hi : ixB (txt q.num) 47 = -1 := ix_none (no_slash _)
    have hsl : strEq (ByteArray.mk #[(47 : UInt8)]) (txt q.num) = false := by
      rw [Bool.eq_false_iff]
      intro k
      rw [strEq_iff, decide_eq_true_eq] at k
      have := no_slash q.num
      rw [← k] at this
      exact this List.mem_cons_self
    have hq : Rat.divInt q.num 1 = q := by
      have := Rat.num_divInt_den q
      rw [hd] at this
      exact this
    rw [hsl, hi, dF (show ¬ (0 : Int) ≤ -1 by decide)]
    show qtail sg0 xg0 sq0 qxt pvT pkT (txt q.num) (txt q.num) (ByteArray.mk #[(49 : UInt8)]) = _
    rw [qtail_eq _ _ _ hs (by decide), if_pos ⟨r3, one_good.1, by rw [one_good.2]; decide, by rw [r2, one_good.2, hq, e]⟩, r2, one_good.2, hq]
  · have e : qxt q = strCat (strCat (txt q.num) (ByteArray.mk #[47])) (txt (q.den : Int)) := by unfold qxt; rw [if_neg hd]
    have hl := cat_slash (txt q.num) (txt (q.den : Int))
    rw [← e] at hl
    have hsz : (qxt q).size = (txt q.num).size + 1 + (txt (q.den : Int)).size := by rw [e, size_cat, size_cat]; rfl
    have h1 := txt_size2 q.num
    have h2 := txt_size2 (q.den : Int)
    obtain ⟨_, r2, r3, _⟩ := read_txt (z := q.num) (by omega)
    obtain ⟨_, t2, t3, _⟩ := read_txt (z := (q.den : Int)) (by omega)
    have hi : ixB (qxt q) 47 = ((txt q.num).size : Nat) := by
      rw [ix47, hl, ix_at (no_slash _), Array.length_toList]; rfl
    have hln : (txt q.num).data.toList.length = (txt q.num).size := by rw [Array.length_toList]; rfl
    have hld : (txt (q.den : Int)).data.toList.length = (txt (q.den : Int)).size := by rw [Array.length_toList]; rfl
    have u1 : strSub (qxt q) 0 (txt q.num).size = txt q.num := by
      apply bytes_ext
      show ((qxt q).data.toList.drop 0).take ((txt q.num).size - 0) = _
      rw [List.drop_zero, Nat.sub_zero, hl]
      exact List.take_left' hln
    have v1 : strSub (qxt q) ((txt q.num).size + 1) (qxt q).size = txt (q.den : Int) := by
      apply bytes_ext
      show ((qxt q).data.toList.drop ((txt q.num).size + 1)).take ((qxt q).size - ((txt q.num).size + 1)) = _
      have : (qxt q).data.toList = ((txt q.num).data.toList ++ [47]) ++ (txt (q.den : Int)).data.toList := by rw [hl, List.append_assoc]; rfl
      rw [this, List.drop_left' (by rw [List.length_append, hln]; rfl)]
      exact List.take_of_length_le (by rw [hld, hsz]; omega)
    have hne : 0 < (txt q.num).size := by
      by_cases h : q.num = 0
      · rw [h]; exact (by decide : 0 < 1)
      · have := dl_pos (show q.num.natAbs ≠ 0 by omega); omega
    have hsl : strEq (ByteArray.mk #[(47 : UInt8)]) (qxt q) = false := by
      rw [Bool.eq_false_iff]
      intro k
      rw [strEq_iff, decide_eq_true_eq] at k
      have k2 : (qxt q).size = 1 := by rw [← k]; rfl
      omega
    have hdp := q.den_pos
    have et : ((((txt q.num).size : Nat) : Int) + 1).toNat = (txt q.num).size + 1 := by omega
    rw [hsl, hi, Int.toNat_natCast, et, u1, v1, dT (show (0 : Int) ≤ ((txt q.num).size : Int) by omega), dT (show (((txt q.num).size : Nat) : Int) ≤ ((qxt q).size : Int) by omega), i64T (z := (((txt q.num).size : Nat) : Int) + 1) (by omega), dT (show (0 : Int) ≤ (((txt q.num).size : Nat) : Int) + 1 by omega), dT (show (((txt q.num).size : Nat) : Int) + 1 ≤ ((qxt q).size : Int) by omega)]
    show qtail sg0 xg0 sq0 qxt pvT pkT (qxt q) (txt q.num) (txt (q.den : Int)) = _
    rw [qtail_eq _ _ _ (by omega) (by omega), r2, t2, Rat.num_divInt_den, if_pos ⟨r3, t3, by omega, rfl⟩]
theorem qparse_bad (s : ByteArray) (hs : s.size ≤ 20000) (hn : ¬ ∃ q, qxt q = s) : callA Try.prog ⟨CqA sg0 xg0 sq0 qxt pvT pkT ixB, fun _ => false, noL⟩ 10 10 6 [.val (.string s)] = qE3 := by
  have sub_le : ∀ a b, (strSub s a b).size ≤ s.size := fun a b => by
    show (((s.data.toList.drop a).take (b - a)).toArray).size ≤ _
    rw [List.size_toArray, List.length_take, List.length_drop, Array.length_toList]
    show min _ (s.size - a) ≤ _
    omega
  have t3 : ∀ u v : ByteArray, u.size ≤ 20000 → v.size ≤ 20000 → qtail sg0 xg0 sq0 qxt pvT pkT s u v = qE3 := fun u v hu hv => by
    rw [qtail_eq _ _ _ hu hv, if_neg (fun h => hn ⟨_, h.2.2.2⟩)]
  rw [qparse_tree2, dF (show ¬ (65536 : Int) < (s.size : Int) by omega), t3 _ _ (Nat.le_trans (sub_le _ _) hs) (Nat.le_trans (sub_le _ _) hs), t3 _ _ (Nat.le_trans (sub_le _ _) hs) (Nat.le_trans (sub_le _ _) hs), t3 _ _ hs (by decide)]
  by_cases h1 : strEq (ByteArray.mk #[(47 : UInt8)]) s = true
  · have h2 : s = ByteArray.mk #[47] := by
      rw [strEq_iff, decide_eq_true_eq] at h1
      exact h1.symm
    rw [h1, h2]; rfl
  · rw [Bool.not_eq_true] at h1
    rw [h1]
    have hlt := ixB_lt s 47
    by_cases h2 : (0 : Int) ≤ ixB s 47
    · rw [dT h2, dT (show ixB s 47 ≤ (s.size : Int) by omega), i64T (z := ixB s 47 + 1) (by omega), dT (show (0 : Int) ≤ ixB s 47 + 1 by omega), dT (show ixB s 47 + 1 ≤ (s.size : Int) by omega)]; rfl
    · rw [dF h2]; rfl
def pqT (s : ByteArray) : Rat := @dite _ (∃ q, qxt q = s) (Classical.propDecidable _) (fun h => Classical.choose h) (fun _ => 0)
def kqT (s : ByteArray) : Int := @ite _ (∃ q, qxt q = s) (Classical.propDecidable _) 0 3
theorem pq_bad {s : ByteArray} (h : ¬ ∃ q, qxt q = s) : pqT s = 0 ∧ kqT s = 3 := ⟨dif_neg h, if_neg h⟩
theorem pq_good {s : ByteArray} (h : ∃ q, qxt q = s) : qxt (pqT s) = s ∧ kqT s = 0 := by
  refine ⟨?_, if_pos h⟩
  unfold pqT
  rw [dif_pos h]
  exact Classical.choose_spec h
theorem rat_inj {x y : Rat} (h : sq0.rat x = sq0.rat y) : x = y := by
  unfold Qg.rat at h
  simp only [AV.agg.injEq, List.cons.injEq, AV.val.injEq, Value.bool.injEq, Value.string.injEq, and_true] at h
  obtain ⟨e1, e2, e3⟩ := h
  rw [← qv_rat x, e1, e2, e3, qv_rat]
theorem pq_qxt {q : Rat} (hs : (qxt q).size ≤ 20000) : pqT (qxt q) = q ∧ kqT (qxt q) = 0 := by
  obtain ⟨h1, h2⟩ := pq_good (s := qxt q) ⟨q, rfl⟩
  refine ⟨?_, h2⟩
  have a1 := qparse_good q hs
  have a2 := qparse_good (pqT (qxt q)) (by rw [h1]; exact hs)
  rw [h1, a1] at a2
  simp only [Option.some.injEq, AV.tup.injEq, List.cons.injEq, and_true] at a2
  exact (rat_inj a2).symm
def tQPrs (Z : Qg) (pq : ByteArray → Rat) (kq : ByteArray → Int) : TF := fun args => match args with | [.val (.string s)] => some (decide (s.size ≤ 20000), .tup [Z.rat (pq s), .val (.int .i64 (kq s))]) | _ => none
theorem eQParse : Entry Try.prog 6 (tQPrs sq0 pqT kqT) := by
  refine entry_of (E := ⟨CqA sg0 xg0 sq0 qxt pvT pkT ixB, fun _ => false, noL⟩) (u := 10) (d := 10) CqA_ok loops_none mixed (by kernel_rfl) (fun args r h => ?_)
  unfold tQPrs at h
  split at h
  · rename_i s
    simp only [Option.some.injEq, Prod.mk.injEq, decide_eq_true_eq] at h
    obtain ⟨h1, rfl⟩ := h
    by_cases hq : ∃ q, qxt q = s
    · obtain ⟨q, rfl⟩ := hq
      rw [(pq_qxt h1).1, (pq_qxt h1).2]
      exact qparse_good q h1
    · rw [(pq_bad hq).1, (pq_bad hq).2, qparse_bad s h1 hq, rat_zero]; rfl
  · cases h
end
end Go.Proofs.Ytibaendebbicjaa.L
namespace Go.Proofs.Ytibaendebbicjaa.L
open Go Go.V Go.RowKit Go.Proofs.Ytibaendebbicjaa.Sp Go.Proofs.Ytibaendebbicjaa.F
open Go.Proofs (Try.prog)
noncomputable section
def CTr (Z : Qg) (qx : Rat → ByteArray) (pq : ByteArray → Rat) (kq : ByteArray → Int) : FuncId → TF := addC 7 (tQPrt Z qx) (addC 6 (tQPrs Z pq kq) (addC 8 (tQAdd Z) (addC 9 (tQOf Z) (addC 5 tAwakeQ noC))))
theorem trip_tree (Z : Qg) (qx : Rat → ByteArray) (pq : ByteArray → Rat) (kq : ByteArray → Int) (b : Bool) (n d s : ByteArray) : letI q_3 := (Z.fr (0 : Int) (1 : Int)); letI q_1 := (Z.qv b n d + Z.qv (Z.qn q_3) (Z.qs q_3) (Z.qd q_3)); letI q_2 := (strEq (Z.qs (pq (qx (Z.qv b n d)))) (Z.qs q_1) && (strEq (Z.qd (pq (qx (Z.qv b n d)))) (Z.qd q_1) && true)); letI q_4 := (strEq (Z.qs (pq s)) (ByteArray.mk #[]) && (strEq (Z.qd (pq s)) (ByteArray.mk #[]) && true));
    (callA Try.prog ⟨CTr Z qx pq kq, fun _ => false, noL⟩ 10 10 3 [.agg [.val (.bool b), .val (.string n), .val (.string d)], .val (.string s)] = (bif decide ((60 : Int) < (↑n.size : Int)) then some (.val (.bool true)) else (bif decide ((60 : Int) < (↑d.size : Int)) then some (.val (.bool true)) else (bif decide ((200 : Int) < (↑s.size : Int)) then some (.val (.bool true)) else (bif decide (n.size ≤ (100000 : Nat)) && decide (d.size ≤ (100000 : Nat)) then (bif decide ((qx (Z.qv b n d)).size ≤ (20000 : Nat)) then (bif !decide (kq (qx (Z.qv b n d)) = (0 : Int)) then some (.val (.bool false)) else (bif Z.ok n d && Z.ok (Z.qs q_3) (Z.qd q_3) then (bif bif true then !(Z.qn (pq (qx (Z.qv b n d))) == Z.qn q_1 && q_2) else Z.qn (pq (qx (Z.qv b n d))) == Z.qn q_1 && q_2 then some (.val (.bool false)) else (bif decide (s.size ≤ (20000 : Nat)) then (bif !decide (kq s = (0 : Int)) then (bif bif false then !(Z.qn (pq s) == false && q_4) else Z.qn (pq s) == false && q_4 then some (.val (.bool true)) else some (.val (.bool false))) else (bif decide ((Z.qs (pq s)).size ≤ (100000 : Nat)) && decide ((Z.qd (pq s)).size ≤ (100000 : Nat)) then (bif strEq (qx (Z.qv (Z.qn (pq s)) (Z.qs (pq s)) (Z.qd (pq s)))) s then some (.val (.bool true)) else some (.val (.bool false))) else none)) else none)) else none)) else none) else none))))) := by kernel_rfl
theorem CTr_ok : Meets Try.prog (CTr sq0 qxt pqT kqT) := (((((meets_none _).add eAwakeQ).add eQOf).add eQAdd).add eQParse).add eQPrint
theorem qxt_size (q : Rat) : (qxt q).size ≤ 18 * szq q + 3 := by
  have b1 : bs q.num.natAbs ≤ szq q := Nat.le_max_left _ _
  have b2 : bs ((q.den : Int)).natAbs ≤ szq q := Nat.le_max_right _ _
  have s1 := txt_size q.num
  have s2 := txt_size (q.den : Int)
  have s3 := dl_bs q.num.natAbs
  have s4 := dl_bs ((q.den : Int)).natAbs
  unfold qxt
  split
  · omega
  · rw [size_cat, size_cat]
    have : (ByteArray.mk #[(47 : UInt8)]).size = 1 := rfl
    omega
theorem szq_qxt (q : Rat) : szq q ≤ (qxt q).size + 1 := by
  have b1 := bs_dec (dl_lt q.num.natAbs)
  have b2 := bs_dec (dl_lt ((q.den : Int)).natAbs)
  have s1 := txt_size2 q.num
  have s2 := txt_size2 (q.den : Int)
  have e : bs q.den = bs ((q.den : Int)).natAbs := rfl
  unfold szq qxt
  rw [e]
  by_cases h : q.den = 1
  · rw [if_pos h]
    have : bs ((q.den : Int)).natAbs ≤ 1 := bs_le (by rw [h]; decide)
    omega
  · rw [if_neg h, size_cat, size_cat]
    omega
theorem trip_true (b : Bool) (n d s : ByteArray) : callA Try.prog ⟨CTr sq0 qxt pqT kqT, fun _ => false, noL⟩ 10 10 3 [.agg [.val (.bool b), .val (.string n), .val (.string d)], .val (.string s)] = some (.val (.bool true)) := by
  have htree := trip_tree sq0 qxt pqT kqT b n d s
  by_cases h1 : (60 : Int) < n.size
  · rw [htree, dT h1]; rfl
  by_cases h2 : (60 : Int) < d.size
  · rw [htree, dF h1, dT h2]; rfl
  by_cases h3 : (200 : Int) < s.size
  · rw [htree, dF h1, dF h2, dT h3]; rfl
  have hz := szq_val60 b (n := n) (d := d) (by omega) (by omega)
  rw [htree]
  clear htree
  generalize sq0.qv b n d = q at *
  have hq := qxt_size q
  obtain ⟨p1, p2⟩ := pq_qxt (q := q) (by omega)
  have o0 : sq0.ok (sq0.qs 0) (sq0.qd 0) = true := ok_rat (by have := szq_zero; omega)
  simp only [qv_rat, fr01, p1, p2, Rat.add_zero]
  rw [dF h1, dF h2, dF h3, dT (show n.size ≤ 100000 by omega), dT (show d.size ≤ 100000 by omega), dT (show (qxt q).size ≤ 20000 by omega), qok_small (n := n) (d := d) (by omega) (by omega), o0, eqQ (rfl : q = q), dT (show s.size ≤ 20000 by omega)]
  by_cases hs : ∃ q, qxt q = s
  · obtain ⟨g1, g2⟩ := pq_good hs
    have z1 := szq_qxt (pqT s)
    rw [g1] at z1
    have z2 := size_qs (pqT s)
    have z3 := size_qd (pqT s)
    have z4 : bs (pqT s).num.natAbs ≤ szq (pqT s) := Nat.le_max_left _ _
    have z5 : bs (pqT s).den ≤ szq (pqT s) := Nat.le_max_right _ _
    rw [g2, dT (show (sq0.qs (pqT s)).size ≤ 100000 by omega), dT (show (sq0.qd (pqT s)).size ≤ 100000 by omega), g1, strEq_self]; rfl
  · obtain ⟨g1, g2⟩ := pq_bad hs
    rw [g1, g2, eqQ0 rfl]; rfl
theorem trip_walk (b : Bool) (n d s : ByteArray) {q : Prop} (hq : q) (W : World) : Calls Try.prog 3 #[.agg #[.bool b, .string n, .string d], .string s] W fun e w' => e = .returned (.bool true) ∧ Below W.heap.size W w' :=
  law_walk CTr_ok loops_none (by kernel_rfl) (trip_true b n d s) W ⟨_, _, rfl, arg_rat _ _ b n d, _, _, rfl, rfl, rfl⟩
end
end Go.Proofs.Ytibaendebbicjaa.L
