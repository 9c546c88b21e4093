import Derived.Test.YthimfbeemicbhaaZQA
import Derived.Test.YthimfbeemicbhaaZNB
set_option linter.unusedVariables false
set_option linter.unusedSimpArgs false
namespace Go.Proofs.Ythimfbeemicbhaa.L
open Go Go.V Go.RowKit Go.Proofs.Ythimfbeemicbhaa.Sp Go.Proofs.Ythimfbeemicbhaa.F
open Go.Proofs (Try.prog)
noncomputable section
def tReduce (S : Sg) (X : Xg) (Z : Qg) : TF := fun args => match args with | [.agg [.val (.bool b), .val (.string s)], .agg [.val (.bool c), .val (.string t)]] => some (X.ok2 s && X.ok2 t && !decide (S.val c t = 0), Z.rat (Z.fr (S.val b s) (S.val c t))) | _ => none
def tRNew (S : Sg) (X : Xg) (Z : Qg) : TF := fun args => match args with | [.agg [.val (.bool b), .val (.string s)], .agg [.val (.bool c), .val (.string t)]] => some (X.ok2 s && X.ok2 t, .tup [Z.rat (Z.fr (S.val b s) (S.val c t)), .val (.int .i64 (X.de (S.val c t)))]) | _ => none
end
end Go.Proofs.Ythimfbeemicbhaa.L
namespace Go.Proofs.Ythimfbeemicbhaa.L
open Go Go.V Go.RowKit Go.Proofs.Ythimfbeemicbhaa.Sp Go.Proofs.Ythimfbeemicbhaa.F
open Go.Proofs (Try.prog)
noncomputable section
def CRp (S : Sg) : FuncId → TF := addC 85 (tAdd S) (addC 56 (tOf S) noC)
def CRe (S : Sg) (X : Xg) : FuncId → TF := addC 86 (tNeg S) (addC 87 (tGcd2 S X) (addC 88 (tDiv2 S X) (CRp S)))
theorem reduce_tree (S : Sg) (X : Xg) (b c : Bool) (s t : ByteArray) : letI q_3 := (S.val b s + S.val false (ByteArray.mk #[])); letI q_8 := (-S.val (S.ng q_3) (S.ms q_3)); letI q_4 := (S.val c t + S.val false (ByteArray.mk #[])); letI q_7 := (-S.val (S.ng q_4) (S.ms q_4)); letI q_1 := (X.gcd (S.val (S.ng q_8) (S.ms q_8)) (S.val (S.ng q_7) (S.ms q_7))); letI q_2 := (X.gcd (S.val (S.ng q_3) (S.ms q_3)) (S.val (S.ng q_4) (S.ms q_4))); letI q_5 := (X.dq (S.val (S.ng q_8) (S.ms q_8)) (S.val (S.ng q_1) (S.ms q_1))); letI q_6 := (X.dq (S.val (S.ng q_3) (S.ms q_3)) (S.val (S.ng q_2) (S.ms q_2)));
    (callA Try.prog ⟨CRe S X, Kall, noL⟩ 10 10 71 [.agg [.val (.bool b), .val (.string s)], .agg [.val (.bool c), .val (.string t)]] = (bif S.ok s && S.ok (ByteArray.mk #[]) then (bif S.ok t && S.ok (ByteArray.mk #[]) then (bif strEq (S.ms q_3) (ByteArray.mk #[]) then some (.agg [(.val (.bool false)), (.val (.string (ByteArray.mk #[]))), (.val (.string (ByteArray.mk #[])))]) else (bif S.ng q_4 then (bif S.ok (S.ms q_3) then (bif S.ok (S.ms q_4) then (bif X.ok2 (S.ms q_8) && X.ok2 (S.ms q_7) then (bif X.ok2 (S.ms q_8) && X.ok2 (S.ms q_1) then (bif X.ok2 (S.ms q_7) && X.ok2 (S.ms q_1) then (bif !strEq (S.ms (X.dq (S.val (S.ng q_7) (S.ms q_7)) (S.val (S.ng q_1) (S.ms q_1)))) (ByteArray.mk #[(1 : UInt8)]) then some (.agg [(.val (.bool (S.ng q_5))), (.val (.string (S.ms q_5))), (.val (.string (S.ms (X.dq (S.val (S.ng q_7) (S.ms q_7)) (S.val (S.ng q_1) (S.ms q_1))))))]) else some (.agg [(.val (.bool (S.ng q_5))), (.val (.string (S.ms q_5))), (.val (.string (ByteArray.mk #[])))])) else none) else none) else none) else none) else none) else (bif X.ok2 (S.ms q_3) && X.ok2 (S.ms q_4) then (bif X.ok2 (S.ms q_3) && X.ok2 (S.ms q_2) then (bif X.ok2 (S.ms q_4) && X.ok2 (S.ms q_2) then (bif !strEq (S.ms (X.dq (S.val (S.ng q_4) (S.ms q_4)) (S.val (S.ng q_2) (S.ms q_2)))) (ByteArray.mk #[(1 : UInt8)]) then some (.agg [(.val (.bool (S.ng q_6))), (.val (.string (S.ms q_6))), (.val (.string (S.ms (X.dq (S.val (S.ng q_4) (S.ms q_4)) (S.val (S.ng q_2) (S.ms q_2))))))]) else some (.agg [(.val (.bool (S.ng q_6))), (.val (.string (S.ms q_6))), (.val (.string (ByteArray.mk #[])))])) else none) else none) else none))) else none) else none)) := by kernel_rfl
def CRm (S : Sg) (X : Xg) (Z : Qg) : FuncId → TF := addC 71 (tReduce S X Z) (addC 56 (tOf S) (addC 70 (tCompare S) (addC 55 (tRNew S X Z) noC)))
theorem rqnew_tree (S : Sg) (X : Xg) (Z : Qg) (b c : Bool) (s t : ByteArray) : callA Try.prog ⟨addC 71 (tReduce S X Z) (addC 70 (tCompare S) noC), Kall, noL⟩ 10 10 55 [.agg [.val (.bool b), .val (.string s)], .agg [.val (.bool c), .val (.string t)]] =
    (bif S.ok t && S.ok (ByteArray.mk #[]) then (bif decide (S.cmz (S.val c t) (S.val false (ByteArray.mk #[])) = (0 : Int)) then some (.tup [(.agg [(.val (.bool false)), (.val (.string (ByteArray.mk #[]))), (.val (.string (ByteArray.mk #[])))]), (.val (.int .i64 10))]) else (bif X.ok2 s && X.ok2 t && !decide (S.val c t = (0 : Int)) then some (.tup [(.agg [(.val (.bool (Z.qn (Z.fr (S.val b s) (S.val c t))))), (.val (.string (Z.qs (Z.fr (S.val b s) (S.val c t))))), (.val (.string (Z.qd (Z.fr (S.val b s) (S.val c t)))))]), (.val (.int .i64 0))]) else none)) else none) := by kernel_rfl
theorem rqratio_tree (S : Sg) (X : Xg) (Z : Qg) (n d : Int) : callA Try.prog ⟨CRm S X Z, Kall, noL⟩ 10 10 34 [.val (.int .i64 n), .val (.int .i64 d)] =
    (bif inI n then (bif inI d then (bif X.ok2 (S.ms n) && X.ok2 (S.ms d) then some (.tup [(.agg [(.val (.bool (Z.qn (Z.fr (S.val (S.ng n) (S.ms n)) (S.val (S.ng d) (S.ms d)))))), (.val (.string (Z.qs (Z.fr (S.val (S.ng n) (S.ms n)) (S.val (S.ng d) (S.ms d)))))), (.val (.string (Z.qd (Z.fr (S.val (S.ng n) (S.ms n)) (S.val (S.ng d) (S.ms d))))))]), (.val (.int .i64 (X.de (S.val (S.ng d) (S.ms d)))))]) else none) else none) else none) := by kernel_rfl
end
end Go.Proofs.Ythimfbeemicbhaa.L
namespace Go.Proofs.Ythimfbeemicbhaa.L
open Go Go.V Go.RowKit Go.Proofs.Ythimfbeemicbhaa.Sp Go.Proofs.Ythimfbeemicbhaa.F
open Go.Proofs (Try.prog)
noncomputable section
theorem CRp_ok : Meets Try.prog (CRp sg0) := ((meets_none _).add eROf).add eRAdd
theorem x_ok2 (s : ByteArray) : xg0.ok2 s = decide (s.size ≤ 68719476736) := of_eq_true (eq_true rfl)
theorem ok2_ms {z : Int} (h : bs z.natAbs ≤ 68719476736) : xg0.ok2 (sg0.ms z) = true := by rw [x_ok2, size_ms]; exact decide_eq_true h
theorem ok2_out {s : ByteArray} (h : xg0.ok2 s = true) : s.size ≤ 68719476736 := by rw [x_ok2, decide_eq_true_eq] at h; exact h
theorem eRGcd : Entry Try.prog 87 (tGcd2 sg0 xg0) := eRGcdX xg0 rfl rfl
theorem eRDiv : Entry Try.prog 88 (tDiv2 sg0 xg0) := eRDivX xg0 rfl rfl rfl rfl
theorem CRe_ok : Meets Try.prog (CRe sg0 xg0) := ((CRp_ok.add eRDiv).add eRGcd).add eRNeg
theorem ms_is1 {n : Nat} : strEq (sg0.ms (n : Int)) (ByteArray.mk #[(1 : UInt8)]) = decide (n = 1) := by
  have e : ByteArray.mk #[(1 : UInt8)] = magOf 1 := (magOf_of_lead (ByteArray.mk #[(1 : UInt8)]) (by show ¬ (1 : UInt8) = 0; decide)).symm
  rw [e, strEq_iff]
  refine decide_eq_decide.2 ?_
  have hm : sg0.ms (n : Int) = magOf n := rfl
  rw [hm]
  constructor
  · intro h
    have := congrArg vS h
    rwa [vS_magOf, vS_magOf] at this
  · intro h; rw [h]
theorem eReduce : Entry Try.prog 71 (tReduce sg0 xg0 sq0) := by
  refine entry_of (E := ⟨CRe sg0 xg0, Kall, noL⟩) (u := 10) (d := 10) CRe_ok loops_none mixed (by kernel_rfl) (fun args r h => ?_)
  unfold tReduce at h
  split at h
  · rename_i b s c t
    simp only [Option.some.injEq, Prod.mk.injEq, Bool.and_eq_true, Bool.not_eq_true', decide_eq_false_iff_not] at h
    obtain ⟨⟨⟨h1, h2⟩, h3⟩, rfl⟩ := h
    have z1 := ok2_out h1
    have z2 := ok2_out h2
    have k1 := bs_val b s
    have k2 := bs_val c t
    have hcall := reduce_tree sg0 xg0 b c s t
    simp only [val_ms, vnil, Int.add_zero, msnil, x_gcd, x_dq] at hcall
    rw [hcall]
    clear hcall
    generalize sg0.val b s = x at *
    generalize sg0.val c t = y at *
    have n1 := bs_neg x
    have n2 := bs_neg y
    have g1 := bs_zg x y
    have g2 := bs_zg (-x) (-y)
    have hfr : sq0.fr x y = Rat.divInt x y := rfl
    rw [okq_size (s := s) (by omega), okq_size (s := t) (by omega), ok_nil, ok_ms (z := x) (by omega), ok_ms (z := y) (by omega), ok2_ms (z := x) (by omega), ok2_ms (z := y) (by omega), ok2_ms (z := -x) (by omega), ok2_ms (z := -y) (by omega), ok2_ms (z := zg x y) (by omega), ok2_ms (z := zg (-x) (-y)) (by omega), hfr]
    by_cases h0 : x = 0
    · rw [dT h0, h0, Rat.zero_divInt, rat_zero]; rfl
    · rw [dF h0, ng_eq y]
      have hd := qd_if (Rat.divInt x y)
      by_cases hy : y < 0
      · obtain ⟨e1, e2⟩ := zq_fr (-x) (show 0 < -y by omega)
        rw [Rat.neg_divInt_neg] at e1 e2
        rw [dT hy, e1, e2, ms_is1]
        by_cases h4 : (Rat.divInt x y).den = 1
        · rw [if_pos h4] at hd
          rw [dT h4]
          unfold Qg.rat
          rw [hd]; rfl
        · rw [if_neg h4] at hd
          rw [dF h4]
          unfold Qg.rat
          rw [hd]; rfl
      · obtain ⟨e1, e2⟩ := zq_fr x (show 0 < y by omega)
        rw [dF hy, e1, e2, ms_is1]
        by_cases h4 : (Rat.divInt x y).den = 1
        · rw [if_pos h4] at hd
          rw [dT h4]
          unfold Qg.rat
          rw [hd]; rfl
        · rw [if_neg h4] at hd
          rw [dF h4]
          unfold Qg.rat
          rw [hd]; rfl
  · cases h
theorem eRQNew : Entry Try.prog 55 (tRNew sg0 xg0 sq0) := by
  refine entry_of (E := ⟨addC 71 (tReduce sg0 xg0 sq0) (addC 70 (tCompare sg0) noC), Kall, noL⟩) (u := 10) (d := 10) (((meets_none _).add eRCompare).add eReduce) loops_none mixed (by kernel_rfl) (fun args r h => ?_)
  unfold tRNew at h
  split at h
  · rename_i b s c t
    simp only [Option.some.injEq, Prod.mk.injEq, Bool.and_eq_true] at h
    obtain ⟨⟨h1, h2⟩, rfl⟩ := h
    have z1 := ok2_out h1
    have z2 := ok2_out h2
    have hcall := rqnew_tree sg0 xg0 sq0 b c s t
    simp only [vnil] at hcall
    rw [h1, h2, okq_size (s := t) (by omega), ok_nil] at hcall
    rw [hcall, x_de]
    generalize sg0.val b s = x at *
    generalize sg0.val c t = y at *
    by_cases h0 : y = 0
    · have hfr : sq0.fr x 0 = 0 := Rat.divInt_zero x
      rw [dT ((cz_iff _ _).2 h0), h0, ez0, hfr, rat_zero]; rfl
    · rw [dF (fun h => h0 ((cz_iff _ _).1 h)), ezn h0, dF h0]; rfl
  · cases h
theorem CRm_ok : Meets Try.prog (CRm sg0 xg0 sq0) := ((((meets_none _).add eRQNew).add eRCompare).add eROf).add eReduce
theorem bs8 {z : Int} (h : inI z = true) : bs z.natAbs ≤ 8 := by
  unfold inI at h
  rw [Bool.and_eq_true, decide_eq_true_eq, decide_eq_true_eq] at h
  exact bs_le (by have : (256 : Nat) ^ 8 = 18446744073709551616 := rfl; omega)
theorem eRQRatio : Entry Try.prog 34 (tQRatio xg0 sq0) := by
  refine entry_of (E := ⟨CRm sg0 xg0 sq0, Kall, noL⟩) (u := 10) (d := 10) CRm_ok loops_none mixed (by kernel_rfl) (fun args r h => ?_)
  unfold tQRatio at h
  split at h
  · rename_i n d
    simp only [Option.some.injEq, Prod.mk.injEq, Bool.and_eq_true] at h
    obtain ⟨⟨h1, h2⟩, rfl⟩ := h
    have hb := bs8 h1
    have hb2 := bs8 h2
    rw [rqratio_tree]
    simp only [val_ms]
    rw [h1, h2, ok2_ms (z := n) (by omega), ok2_ms (z := d) (by omega)]
    rfl
  · cases h
end
end Go.Proofs.Ythimfbeemicbhaa.L
