import Derived.Test.YtndpfegbbpoopaaZYA
import Derived.Test.YtndpfegbbpoopaaZYC
import Derived.Test.YtndpfegbbpoopaaZA3
set_option linter.unusedVariables false
set_option linter.unusedSimpArgs false
namespace Go.Proofs.Ytndpfegbbpoopaa.L
open Go Go.V Go.RowKit Go.Proofs.Ytndpfegbbpoopaa.Sp Go.Proofs.Ytndpfegbbpoopaa.F
open Go.Proofs (Try.prog)
noncomputable section
def CDe (S : Sg) (tx : Int → ByteArray) (pv pk : ByteArray → Int) : FuncId → List AV → Option (Bool × AV) := addC 9 (tPrt S tx) (addC 7 (tPrs S pv pk) (addC 11 (tCompare S) (addC 12 (tCheck S) (addC 14 (tMul S) (addC 15 (tOf S) (addC 6 tAwake noC))))))
theorem decimal_tree (S : Sg) (tx : Int → ByteArray) (pv pk : ByteArray → Int) (b : Bool) (t s : ByteArray) : letI q_4 := (strCat (tx (S.val b t)) (ByteArray.mk #[(48 : UInt8)])); letI q_5 := (S.ms (pv (tx (S.val b t)))); letI q_3 := (S.val (S.ng (pv (tx (S.val b t)))) q_5 * S.val (S.ng (10 : Int)) (S.ms (10 : Int))); letI q_2 : Option AV := (bif !decide (pk s = (0 : Int)) then (bif decide (pk s = (3 : Int)) then (bif bif false then !(S.ng (pv s) == false && (strEq (S.ms (pv s)) (ByteArray.mk #[]) && true)) else S.ng (pv s) == false && (strEq (S.ms (pv s)) (ByteArray.mk #[]) && true) then some (.val (.bool true)) else some (.val (.bool false))) else some (.val (.bool false))) else (bif okt (S.ms (pv s)) then (bif strEq (tx (S.val (S.ng (pv s)) (S.ms (pv s)))) s then some (.val (.bool true)) else some (.val (.bool false))) else none)); letI q_1 : Option AV := (bif decide ((tx (S.val b t)).size + (1 : Nat) ≤ (9223372036854775807 : Nat)) then (bif bif true then !decide (pk q_4 = (0 : Int)) == !strEq (tx (S.val b t)) (ByteArray.mk #[(48 : UInt8)]) else decide (pk q_4 = (0 : Int)) == !strEq (tx (S.val b t)) (ByteArray.mk #[(48 : UInt8)]) then some (.val (.bool false)) else (bif decide (pk q_4 = (0 : Int)) then (bif S.ok q_5 && S.ok (S.ms (10 : Int)) then (bif bif true then !(S.ng (pv q_4) == S.ng q_3 && (strEq (S.ms (pv q_4)) (S.ms q_3) && true)) else S.ng (pv q_4) == S.ng q_3 && (strEq (S.ms (pv q_4)) (S.ms q_3) && true) then some (.val (.bool false)) else q_2) else none) else q_2)) else none); letI q_6 := (S.val false (ByteArray.mk #[]));
    (callA Try.prog ⟨CDe S tx pv pk, fun _ => false, noL⟩ 10 10 4 [.agg [.val (.bool b), .val (.string t)], .val (.string s)] = (bif decide ((60 : Int) < (↑t.size : Int)) then some (.val (.bool true)) else (bif decide ((200 : Int) < (↑s.size : Int)) then some (.val (.bool true)) else (bif okt t then (bif !decide (pk (tx (S.val b t)) = (0 : Int)) then some (.val (.bool false)) else (bif S.ok q_5 && S.ok t then (bif !decide (S.cmz (S.val (S.ng (pv (tx (S.val b t)))) q_5) (S.val b t) = (0 : Int)) then some (.val (.bool false)) else (bif !decide (S.chk (S.ng (pv (tx (S.val b t)))) q_5 = (0 : Int)) then some (.val (.bool false)) else (bif decide ((1 : Int) ≤ (↑(tx (S.val b t)).size : Int)) then (bif decide ((1 : Int) ≤ (↑(tx (S.val b t)).size : Int)) then (bif S.ok t && S.ok (ByteArray.mk #[]) then (bif bif true then !strEq (strSub (tx (S.val b t)) (0 : Nat) (1 : Nat)) (ByteArray.mk #[(45 : UInt8)]) == decide (S.cmz (S.val b t) q_6 < (0 : Int)) else strEq (strSub (tx (S.val b t)) (0 : Nat) (1 : Nat)) (ByteArray.mk #[(45 : UInt8)]) == decide (S.cmz (S.val b t) q_6 < (0 : Int)) then some (.val (.bool false)) else q_1) else none) else none) else (bif S.ok t && S.ok (ByteArray.mk #[]) then (bif bif true then !false == decide (S.cmz (S.val b t) q_6 < (0 : Int)) else false == decide (S.cmz (S.val b t) q_6 < (0 : Int)) then some (.val (.bool false)) else q_1) else none)))) else none)) else none)))) := by kernel_rfl
theorem CDe_ok : Meets Try.prog (CDe sg0 txt pvT pkT) := (((((((meets_none _).add eAwake).add eOf).add eMul).add eCheck).add eCompare).add eParse).add ePrint
theorem rdg_ten {n : Nat} (h : n ≠ 0) : rdg (n * 10) = rdg n ++ [48] := by
  have h1 := dl_lt n
  have h2 := (dl_ge n).resolve_left (by have := dl_pos h; omega)
  have hp := dl_pos h
  have e : dl n + 1 = dl (n * 10) := by
    refine dl_uniq (by rw [Nat.pow_succ]; omega) (.inr ?_)
    rw [Nat.add_sub_cancel, show dl n = dl n - 1 + 1 by omega, Nat.pow_succ]
    omega
  unfold rdg
  rw [← e]
  show (((n * 10 % 10 + 48 : Nat) : Int) :: dp (dl n) (n * 10 / 10)).reverse = _
  rw [show n * 10 % 10 = 0 by omega, show n * 10 / 10 = n by omega, List.reverse_cons]
  rfl
theorem cat_of (L : List Int) : strCat (ofBytes L) (ByteArray.mk #[48]) = ofBytes (L ++ [48]) := by
  apply bytes_ext
  show (ofBytes L).data.toList ++ [48] = _
  show L.map (fun z : Int => UInt8.ofNat z.toNat) ++ [48] = (L ++ [48]).map (fun z : Int => UInt8.ofNat z.toNat)
  rw [List.map_append]; rfl
theorem txt_ten {z : Int} (h : z ≠ 0) : strCat (txt z) (ByteArray.mk #[48]) = txt (z * 10) := by
  have h1 : z * 10 ≠ 0 := by omega
  have hn : (z * 10).natAbs = z.natAbs * 10 := by rw [Int.natAbs_mul]; rfl
  rw [txt_ne h, txt_ne h1, cat_of, hn, rdg_ten (by omega), List.append_assoc]
  by_cases hz : z < 0
  · rw [if_pos hz, if_pos (show z * 10 < 0 by omega)]
  · rw [if_neg hz, if_neg (show ¬ z * 10 < 0 by omega)]
theorem bad00 : pkT (strCat (txt 0) (ByteArray.mk #[48])) = 3 := by
  have e : strCat (txt 0) (ByteArray.mk #[48]) = ByteArray.mk #[48, 48] := rfl
  rw [e]
  refine pkT_bad (by decide) fun g => g.2.2 ⟨rfl, .inl (by decide)⟩
theorem txt_zero {z : Int} : strEq (txt z) (ByteArray.mk #[48]) = decide (z = 0) := by
  by_cases h : z = 0
  · rw [h, dT rfl]; rfl
  · rw [dF h, Bool.eq_false_iff]
    intro hc
    rw [strEq_iff, decide_eq_true_eq] at hc
    obtain ⟨_, h2, _⟩ := txt_parts h
    have hn : z.natAbs ≠ 0 := by omega
    obtain ⟨h3, _⟩ := rd_head hn
    rw [← h2, hc] at h3
    exact h3 rfl
theorem okt_pv {s : ByteArray} (h : s.size ≤ 200) : okt (sg0.ms (pvT s)) = true := by
  refine decide_eq_true ?_
  rw [size_ms]
  by_cases g : goodT s
  · rw [pvT_good (by omega) g]
    have h1 := vT_lt g.2.1
    have h2 := bs_dec h1
    have h3 : (dgsT s).size ≤ s.size := by
      unfold dgsT
      cases sgnT s
      · exact Nat.le_refl _
      · rw [cond_true, size_sub1]; omega
    have e : (sg0.sg (sgnT s) (vT (dgsT s) (dgsT s).size)).natAbs = vT (dgsT s) (dgsT s).size := by
      show (if sgnT s = true then -((vT (dgsT s) (dgsT s).size : Nat) : Int) else ((vT (dgsT s) (dgsT s).size : Nat) : Int)).natAbs = _
      split <;> omega
    rw [e]
    omega
  · rw [pvT_bad g]
    have : bs (0 : Int).natAbs ≤ 0 := bs_le (by decide)
    omega
theorem sgn_txt (z : Int) : sgnT (txt z) = decide (z < 0) := by
  by_cases h : z = 0
  · rw [h]; rfl
  · exact (txt_parts h).1
theorem cmz_lt (z : Int) : sg0.cmz z 0 < 0 ↔ z < 0 := by
  show cmpZ z 0 < 0 ↔ _
  unfold cmpZ
  by_cases h : z < 0
  · rw [if_pos h]; exact ⟨fun _ => h, fun _ => by decide⟩
  · rw [if_neg h]
    refine ⟨fun k => ?_, fun k => absurd k h⟩
    split at k <;> exact absurd k (by decide)
theorem dTi {p : Prop} (i : Decidable p) (h : p) : @decide p i = true := decide_eq_true h
theorem dFi {p : Prop} (i : Decidable p) (h : ¬ p) : @decide p i = false := decide_eq_false h
theorem decimal_true (b : Bool) (t s : ByteArray) : callA Try.prog ⟨CDe sg0 txt pvT pkT, fun _ => false, noL⟩ 10 10 4 [.agg [.val (.bool b), .val (.string t)], .val (.string s)] = some (.val (.bool true)) := by
  have htree := decimal_tree sg0 txt pvT pkT b t s
  rw [val_nil] at htree
  by_cases h1 : (60 : Int) < t.size
  · rw [htree, dT h1]; rfl
  by_cases h2 : (200 : Int) < s.size
  · rw [htree, dF h1, dT h2]; rfl
  have hdl : dl (sg0.val b t).natAbs ≤ 9 * t.size := by
    rw [← vs_val]
    exact dl_le (vs_pow t)
  have hbs := bs_val b t
  have k1 : okt t = true := decide_eq_true (show t.size ≤ 1000000 by omega)
  have k2 : sg0.ok t = true := ok_small (by omega)
  rw [htree]
  clear htree
  generalize sg0.val b t = z at *
  obtain ⟨_, r2, r3, r4⟩ := read_txt (z := z) (by omega)
  have tail : (bif !decide (pkT s = (0 : Int)) then (bif decide (pkT s = (3 : Int)) then (bif sg0.ng (pvT s) == false && (strEq (sg0.ms (pvT s)) (ByteArray.mk #[]) && true) then some (AV.val (.bool true)) else some (.val (.bool false))) else some (.val (.bool false))) else (bif okt (sg0.ms (pvT s)) then (bif strEq (txt (pvT s)) s then some (.val (.bool true)) else some (.val (.bool false))) else none)) = some (.val (.bool true)) := by
    by_cases g : goodT s
    · rw [pkT_good (by omega) g, okt_pv (by omega), txt_read (by omega) g, strEq_self]; rfl
    · rw [pkT_bad (by omega) g, pvT_bad g, eqZ rfl]; rfl
  have q1 : sg0.ok (sg0.ms z) = true := ok_ms (by omega)
  have q2 : sg0.ok (sg0.ms 10) = true := ok_ms (by have : bs (10 : Int).natAbs ≤ 1 := bs_le (by decide); omega)
  have hsub : (txt z).size + 1 ≤ 9223372036854775807 := by omega
  have hsg := sgn_txt z
  simp only [r2, r3, val_ms, cmz_self (rfl : z = z), chk_ms, q1, q2, k1, k2, ok_nil, txt_zero, decide_true, Bool.not_true, cond_false, cond_true, Bool.and_self, dF h1, dF h2, dT hsub]
  rw [tail]
  by_cases h0 : z = 0
  · have e1 : pkT (strCat (txt z) (ByteArray.mk #[(48 : UInt8)])) = 3 := by rw [h0]; exact bad00
    have e2 : (txt z).size = 1 := by rw [h0]; rfl
    have e3 : strEq (strSub (txt z) 0 1) (ByteArray.mk #[(45 : UInt8)]) = decide (z < 0) := by rw [h0]; rfl
    rw [e1, e2, e3, dT h0, dF (show ¬ z < 0 by omega), dFi _ (fun h : sg0.cmz z 0 < 0 => absurd ((cmz_lt z).1 h) (by omega))]
    rfl
  · have e1 := txt_ten h0
    have hn : (z * 10).natAbs = z.natAbs * 10 := by rw [Int.natAbs_mul]; rfl
    have hd2 : dl (z * 10).natAbs ≤ 60000 := by
      have h3 := dl_lt z.natAbs
      have : dl (z * 10).natAbs ≤ dl z.natAbs + 1 := dl_le (by rw [hn, Nat.pow_succ]; omega)
      omega
    obtain ⟨_, p2, p3, _⟩ := read_txt (z := z * 10) hd2
    rw [e1, p3, p2, eqI (rfl : z * 10 = z * 10), dF h0]
    obtain ⟨_, _, hs3⟩ := txt_parts h0
    have hpos := dl_pos (show z.natAbs ≠ 0 by omega)
    have hsz : 0 < (txt z).size := by omega
    have e3 : strEq (strSub (txt z) 0 1) (ByteArray.mk #[(45 : UInt8)]) = decide (z < 0) := by
      unfold sgnT at hsg
      rw [dT hsz, Bool.true_and] at hsg
      exact hsg
    rw [e3, dT (show (1 : Int) ≤ ((txt z).size : Int) by omega)]
    by_cases hz : z < 0
    · rw [dT hz, dTi _ ((cmz_lt z).2 hz)]; rfl
    · rw [dF hz, dFi _ (fun h : sg0.cmz z 0 < 0 => hz ((cmz_lt z).1 h))]; rfl
theorem decimal_walk (b : Bool) (t s : ByteArray) {q : Prop} (hq : q) (W : World) : Calls Try.prog 4 #[.agg #[.bool b, .string t], .string s] W fun e w' => e = .returned (.bool true) ∧ Below W.heap.size W w' :=
  law_walk CDe_ok loops_none (by kernel_rfl) (decimal_true b t s) W ⟨_, _, rfl, arg_int _ _ b t, _, _, rfl, rfl, rfl⟩
end
end Go.Proofs.Ytndpfegbbpoopaa.L
