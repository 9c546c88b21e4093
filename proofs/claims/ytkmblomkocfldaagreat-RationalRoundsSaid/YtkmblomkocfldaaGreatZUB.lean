/- Of the reference of rational: simplest, Simplest: trees. -/
import Derived.Test.YtkmblomkocfldaaGreatZUA
import Derived.Test.YtkmblomkocfldaaGreatZQB
set_option linter.unusedVariables false
set_option linter.unusedSimpArgs false

/- Of the reference of rational: simplest, Simplest: trees. -/
set_option linter.unusedVariables false
set_option linter.unusedSimpArgs false
namespace Go.Proofs.YtkmblomkocfldaaGreat.L
open Go Go.V Go.RowKit Go.Proofs.YtkmblomkocfldaaGreat.Sp Go.Proofs.YtkmblomkocfldaaGreat.F
open Go.Proofs (Tryz.prog)
noncomputable section
def CRSi (S : Sg) (X : Xg) (Z : Qg) (κ : Rat → Rat → Bool) (φ : Rat → Rat → Rat) : FuncId → TF :=
  addC 36 (tSimpl Z κ φ) (addC 54 (tReduce S X Z) (addC 13 (tRCeilQ S Z) (addC 11 (tRFloorQ S Z) (addC 67 (tOf S) (addC 25 (tRCmpQ Z) (addC 21 (tRSubQ Z) (addC 78 (tQOf Z) (addC 15 (tRQuoQ Z) (addC 19 (tRAddQ Z) noC)))))))))
theorem rsimpl_tree (S : Sg) (X : Xg) (Z : Qg) (κ : Rat → Rat → Bool) (φ : Rat → Rat → Rat) (b c : Bool) (n d m e : ByteArray) : letI q_7 := (Z.fr (1 : Int) (1 : Int)); letI q_2 := (Z.fr (S.val (S.ng (Z.fl (Z.qv b n d))) (S.ms (Z.fl (Z.qv b n d)))) (S.val (S.ng (1 : Int)) (S.ms (1 : Int)))); letI q_8 := (Z.qv c m e - Z.qv (Z.qn q_2) (Z.qs q_2) (Z.qd q_2)); letI q_3 := (Z.qv (Z.qn q_7) (Z.qs q_7) (Z.qd q_7) / Z.qv (Z.qn q_8) (Z.qs q_8) (Z.qd q_8)); letI q_9 := (Z.qv b n d - Z.qv (Z.qn q_2) (Z.qs q_2) (Z.qd q_2)); letI q_4 := (Z.qv (Z.qn q_7) (Z.qs q_7) (Z.qd q_7) / Z.qv (Z.qn q_9) (Z.qs q_9) (Z.qd q_9)); letI q_1 := (φ (Z.qv (Z.qn q_3) (Z.qs q_3) (Z.qd q_3)) (Z.qv (Z.qn q_4) (Z.qs q_4) (Z.qd q_4))); letI q_5 := (Z.qv (Z.qn q_7) (Z.qs q_7) (Z.qd q_7) / Z.qv (Z.qn q_1) (Z.qs q_1) (Z.qd q_1)); letI q_6 := (Z.fr (S.val (S.ng (Z.cl (Z.qv b n d))) (S.ms (Z.cl (Z.qv b n d)))) (S.val (S.ng (1 : Int)) (S.ms (1 : Int)))); letI q_10 := (Z.qv (Z.qn q_2) (Z.qs q_2) (Z.qd q_2) + Z.qv (Z.qn q_5) (Z.qs q_5) (Z.qd q_5)); 
    (callA Tryz.prog ⟨CRSi S X Z κ φ, Kall, noL⟩ 10 10 36 [.agg [.val (.bool b), .val (.string n), .val (.string d)], .agg [.val (.bool c), .val (.string m), .val (.string e)]] = (bif Z.oks n d then (bif X.ok2 (S.ms (Z.cl (Z.qv b n d))) && X.ok2 (S.ms (1 : Int)) && !decide (S.val (S.ng (1 : Int)) (S.ms (1 : Int)) = (0 : Int)) then (bif Z.oks (Z.qs q_6) (Z.qd q_6) && Z.oks m e then (bif decide (Z.cq (Z.qv (Z.qn q_6) (Z.qs q_6) (Z.qd q_6)) (Z.qv c m e) ≤ (0 : Int)) then some (.agg [(.val (.bool (Z.qn q_6))), (.val (.string (Z.qs q_6))), (.val (.string (Z.qd q_6)))]) else (bif Z.oks n d then (bif X.ok2 (S.ms (Z.fl (Z.qv b n d))) && X.ok2 (S.ms (1 : Int)) && !decide (S.val (S.ng (1 : Int)) (S.ms (1 : Int)) = (0 : Int)) then (bif Z.oks m e && Z.oks (Z.qs q_2) (Z.qd q_2) then (bif Z.oks (Z.qs q_7) (Z.qd q_7) && Z.oks (Z.qs q_8) (Z.qd q_8) then (bif Z.oks n d && Z.oks (Z.qs q_2) (Z.qd q_2) then (bif Z.oks (Z.qs q_7) (Z.qd q_7) && Z.oks (Z.qs q_9) (Z.qd q_9) then (bif κ (Z.qv (Z.qn q_3) (Z.qs q_3) (Z.qd q_3)) (Z.qv (Z.qn q_4) (Z.qs q_4) (Z.qd q_4)) && Z.oks (Z.qs q_3) (Z.qd q_3) && Z.oks (Z.qs q_4) (Z.qd q_4) then (bif Z.oks (Z.qs q_7) (Z.qd q_7) && Z.oks (Z.qs q_1) (Z.qd q_1) then (bif Z.oks (Z.qs q_2) (Z.qd q_2) && Z.oks (Z.qs q_5) (Z.qd q_5) then some (.agg [(.val (.bool (Z.qn q_10))), (.val (.string (Z.qs q_10))), (.val (.string (Z.qd q_10)))]) else none) else none) else none) else none) else none) else none) else none) else none) else none)) else none) else none) else none)) := by kernel_rfl
def CRSt (Z : Qg) (κ : Rat → Rat → Bool) (φ : Rat → Rat → Rat) : FuncId → TF :=
  addC 36 (tSimpl Z κ φ) (addC 25 (tRCmpQ Z) (addC 27 (tRSignQ Z) (addC 17 (tRNegQ Z) noC)))
theorem rsimplest_tree (Z : Qg) (κ : Rat → Rat → Bool) (φ : Rat → Rat → Rat) (b c : Bool) (n d m e : ByteArray) : letI q_1 := (φ (Z.qv (Z.qn (-Z.qv c m e)) (Z.qs (-Z.qv c m e)) (Z.qd (-Z.qv c m e))) (Z.qv (Z.qn (-Z.qv b n d)) (Z.qs (-Z.qv b n d)) (Z.qd (-Z.qv b n d)))); letI q_2 : Option AV := (bif Z.oks m e then (bif decide (Z.sq (Z.qv c m e) < (0 : Int)) then (bif Z.oks m e then (bif Z.oks n d then (bif κ (Z.qv (Z.qn (-Z.qv c m e)) (Z.qs (-Z.qv c m e)) (Z.qd (-Z.qv c m e))) (Z.qv (Z.qn (-Z.qv b n d)) (Z.qs (-Z.qv b n d)) (Z.qd (-Z.qv b n d))) && Z.oks (Z.qs (-Z.qv c m e)) (Z.qd (-Z.qv c m e)) && Z.oks (Z.qs (-Z.qv b n d)) (Z.qd (-Z.qv b n d)) then (bif Z.oks (Z.qs q_1) (Z.qd q_1) then some (.tup [(.agg [(.val (.bool (Z.qn (-Z.qv (Z.qn q_1) (Z.qs q_1) (Z.qd q_1))))), (.val (.string (Z.qs (-Z.qv (Z.qn q_1) (Z.qs q_1) (Z.qd q_1))))), (.val (.string (Z.qd (-Z.qv (Z.qn q_1) (Z.qs q_1) (Z.qd q_1)))))]), (.val (.int .i64 0))]) else none) else none) else none) else none) else (bif κ (Z.qv b n d) (Z.qv c m e) && Z.oks n d && Z.oks m e then some (.tup [(.agg [(.val (.bool (Z.qn (φ (Z.qv b n d) (Z.qv c m e))))), (.val (.string (Z.qs (φ (Z.qv b n d) (Z.qv c m e))))), (.val (.string (Z.qd (φ (Z.qv b n d) (Z.qv c m e)))))]), (.val (.int .i64 0))]) else none)) else none); 
    (callA Tryz.prog ⟨CRSt Z κ φ, Kall, noL⟩ 10 10 9 [.agg [.val (.bool b), .val (.string n), .val (.string d)], .agg [.val (.bool c), .val (.string m), .val (.string e)]] = (bif Z.oks n d && Z.oks m e then (bif decide ((0 : Int) < Z.cq (Z.qv b n d) (Z.qv c m e)) then some (.tup [(.agg [(.val (.bool false)), (.val (.string (ByteArray.mk #[]))), (.val (.string (ByteArray.mk #[])))]), (.val (.int .i64 8))]) else (bif Z.oks n d then (bif decide (Z.sq (Z.qv b n d) ≤ (0 : Int)) then (bif Z.oks m e then (bif decide ((0 : Int) ≤ Z.sq (Z.qv c m e)) then some (.tup [(.agg [(.val (.bool false)), (.val (.string (ByteArray.mk #[]))), (.val (.string (ByteArray.mk #[])))]), (.val (.int .i64 0))]) else q_2) else none) else q_2) else none)) else none)) := by kernel_rfl
end
end Go.Proofs.YtkmblomkocfldaaGreat.L

/- Of the reference of rational: simplest, Simplest as entries; RationalRounds holds. -/
set_option linter.unusedVariables false
set_option linter.unusedSimpArgs false
namespace Go.Proofs.YtkmblomkocfldaaGreat.L
open Go Go.V Go.RowKit Go.Proofs.YtkmblomkocfldaaGreat.Sp Go.Proofs.YtkmblomkocfldaaGreat.F
open Go.Proofs (Tryz.prog)
noncomputable section
def kapR (k : Nat) (x y : Rat) : Bool := decide (0 < x ∧ x ≤ y ∧ x.den + y.den ≤ k ∧ szq x ≤ 1000000 ∧ szq y ≤ 1000000)
theorem CRSi_ok {κ : Rat → Rat → Bool} {φ : Rat → Rat → Rat} (h : Entry Tryz.prog 36 (tSimpl sq0 κ φ)) : Meets Tryz.prog (CRSi sg0 xg0 sq0 κ φ) :=
  ((((((((((meets_none _).add eRAddQ).add eRQuoQ).add eRQOf).add eRSubQ).add eRCmpQ).add eROf).add eRFloorQ).add eRCeilQ).add eReduce).add h
theorem Gap.floor {a b : Rat} {l : Int} (h : Gap a b l) : a.floor = l := by
  obtain ⟨h0, h1, h2, h3, h4⟩ := h
  have h5 := Rat.le_floor_iff (x := l) (a := a) |>.2 (by grind)
  have h6 := Rat.floor_lt_iff (x := l + 1) (a := a) |>.2 (by rw [Rat.intCast_add]; have : ((1 : Int) : Rat) = 1 := rfl; grind)
  omega
theorem eRSimpl0 (k : Nat) : Entry Tryz.prog 36 (tSimpl sq0 (kapR k) simp1) := by
  induction k with
  | zero =>
    intro args r h
    unfold tSimpl at h
    split at h
    · rename_i b n d c m e
      simp only [Option.some.injEq, Prod.mk.injEq, Bool.and_eq_true] at h
      obtain ⟨⟨⟨h0, _⟩, _⟩, _⟩ := h
      unfold kapR at h0
      rw [decide_eq_true_eq] at h0
      have := h0.2.2.1
      have := (sq0.qv b n d).den_pos
      omega
    · cases h
  | succ k ih =>
    refine entry_of (E := ⟨CRSi sg0 xg0 sq0 (kapR k) simp1, Kall, noL⟩) (u := 10) (d := 10) (CRSi_ok ih) loops_none mixed (by kernel_rfl) (fun args r h => ?_)
    unfold tSimpl at h
    split at h
    · rename_i b n d c m e
      simp only [Option.some.injEq, Prod.mk.injEq, Bool.and_eq_true] at h
      obtain ⟨⟨⟨h0, h1⟩, h2⟩, rfl⟩ := h
      unfold kapR at h0
      rw [decide_eq_true_eq] at h0
      obtain ⟨p0, p1, p2, hx, hy⟩ := h0
      have hcall := rsimpl_tree sg0 xg0 sq0 (kapR k) simp1 b c n d m e
      have hfr : ∀ c : Int, sq0.fr c 1 = (c : Rat) := fr_one
      have hcl : ∀ q, sq0.cl q = q.ceil := fun q => rfl
      have hfl : ∀ q, sq0.fl q = q.floor := fun q => rfl
      have hcq : ∀ x y, sq0.cq x y = cqn x y := fun x y => rfl
      have e1 : ((1 : Int) : Rat) = 1 := rfl
      simp only [qv_rat, val_ms, val_one, hfr, hcl, hfl, hcq] at hcall
      simp only [e1] at hcall
      rw [h1, h2] at hcall
      generalize sq0.qv b n d = x at *
      generalize sq0.qv c m e = y at *
      have c1 := bs_ceil x
      have c2 := szq_int x.ceil
      have c3 : bs x.num.natAbs ≤ szq x := Nat.le_max_left _ _
      have s7 := szq_one
      have h11 : bs (1 : Int).natAbs ≤ 1 := bs_one
      rw [ok2_ms (z := x.ceil) (by omega), ok2_ms (z := 1) (by omega), dF (show ¬ (1 : Int) = 0 by decide), oks_rat (q := (x.ceil : Rat)) (by omega)] at hcall
      rw [simp1_eq p0 p1]
      by_cases h3 : (x.ceil : Rat) ≤ y
      · rw [if_pos h3]
        rw [dT ((cq_le _ _).2 h3)] at hcall
        exact hcall
      · rw [if_neg h3]
        rw [dF (fun h => h3 ((cq_le _ _).1 h))] at hcall
        have g := gap_of p0 p1 h3
        rw [g.floor] at hcall
        have c4 := bs_zsub x.ceil 1
        generalize x.ceil - 1 = l at *
        have c7 := szq_int l
        have hb : 0 < y - (l : Rat) := by have := g.a1; have := g.ab; grind
        obtain ⟨d1, d2, d3, d4⟩ := g.dens
        have s1 := szq_sub y (l : Rat)
        have s2 := szq_sub x (l : Rat)
        have i1 := inv_pos' hb
        have i2 := inv_anti g.a1 g.ab
        have s3 : szq (1 / (y - (l : Rat))) ≤ szq y := by
          have t1 := bs_mono (Nat.le_of_lt d1)
          unfold szq
          rw [d3, Int.natAbs_natCast]
          omega
        have s4 : szq (1 / (x - (l : Rat))) ≤ szq x := by
          have t1 := bs_mono (Nat.le_of_lt d2)
          unfold szq
          rw [d4, Int.natAbs_natCast]
          omega
        have s5 := szq_simp i1 i2
        have s6 := szq_div 1 (simp1 (1 / (y - (l : Rat))) (1 / (x - (l : Rat))))
        have k1 : kapR k (1 / (y - (l : Rat))) (1 / (x - (l : Rat))) = true := by
          unfold kapR
          rw [decide_eq_true_eq]
          exact ⟨i1, i2, by omega, by omega, by omega⟩
        rw [ok2_ms (z := l) (by omega), oks_rat (q := 1) (by omega), oks_rat (q := (l : Rat)) (by omega), oks_rat (q := y - (l : Rat)) (by omega), oks_rat (q := x - (l : Rat)) (by omega), k1, oks_rat (q := 1 / (y - (l : Rat))) (by omega), oks_rat (q := 1 / (x - (l : Rat))) (by omega), oks_rat (q := simp1 (1 / (y - (l : Rat))) (1 / (x - (l : Rat)))) (by omega), oks_rat (q := 1 / simp1 (1 / (y - (l : Rat))) (1 / (x - (l : Rat)))) (by omega)] at hcall
        exact hcall
    · cases h
def kapB (x y : Rat) : Bool := decide (0 < x ∧ x ≤ y ∧ szq x ≤ 1000000 ∧ szq y ≤ 1000000)
theorem eRSimpl : Entry Tryz.prog 36 (tSimpl sq0 kapB simp1) := by
  intro args r h
  have h' := h
  unfold tSimpl at h'
  split at h'
  · rename_i b n d c m e
    simp only [Option.some.injEq, Prod.mk.injEq, Bool.and_eq_true] at h'
    obtain ⟨⟨⟨h0, h1⟩, h2⟩, rfl⟩ := h'
    unfold kapB at h0
    rw [decide_eq_true_eq] at h0
    refine eRSimpl0 ((sq0.qv b n d).den + (sq0.qv c m e).den) _ _ ?_
    unfold tSimpl kapR
    simp only
    rw [h1, h2, decide_eq_true (show 0 < sq0.qv b n d ∧ sq0.qv b n d ≤ sq0.qv c m e ∧ (sq0.qv b n d).den + (sq0.qv c m e).den ≤ (sq0.qv b n d).den + (sq0.qv c m e).den ∧ szq (sq0.qv b n d) ≤ 1000000 ∧ szq (sq0.qv c m e) ≤ 1000000 from ⟨h0.1, h0.2.1, Nat.le_refl _, h0.2.2.1, h0.2.2.2⟩)]
    rfl
  · cases h'
def ok6 (n d : ByteArray) : Bool := decide (n.size ≤ 1000000) && decide (d.size ≤ 1000000)
def tRSimplest (Z : Qg) : TF := fun args => match args with | [.agg [.val (.bool b), .val (.string n), .val (.string d)], .agg [.val (.bool c), .val (.string m), .val (.string e)]] => some (ok6 n d && ok6 m e, .tup [Z.rat (Z.sp (Z.qv b n d) (Z.qv c m e)), .val (.int .i64 (Z.se (Z.qv b n d) (Z.qv c m e)))]) | _ => none
theorem ok6_out {n d : ByteArray} (h : ok6 n d = true) : n.size ≤ 1000000 ∧ d.size ≤ 1000000 := by
  unfold ok6 at h
  rwa [Bool.and_eq_true, decide_eq_true_eq, decide_eq_true_eq] at h
theorem eRSimplest : Entry Tryz.prog 9 (tRSimplest sq0) := by
  refine entry_of (E := ⟨CRSt sq0 kapB simp1, Kall, noL⟩) (u := 10) (d := 10) (((((meets_none _).add eRNegQ).add eRSignQ).add eRCmpQ).add eRSimpl) loops_none mixed (by kernel_rfl) (fun args r h => ?_)
  unfold tRSimplest at h
  split at h
  · rename_i b n d c m e
    simp only [Option.some.injEq, Prod.mk.injEq, Bool.and_eq_true] at h
    obtain ⟨⟨h1, h2⟩, rfl⟩ := h
    obtain ⟨z1, z2⟩ := ok6_out h1
    obtain ⟨z3, z4⟩ := ok6_out h2
    have hcall := rsimplest_tree sq0 kapB simp1 b c n d m e
    have hx := szq_val b n d
    have hy := szq_val c m e
    have hcq : ∀ x y, sq0.cq x y = cqn x y := fun x y => rfl
    have hsq : ∀ x, sq0.sq x = cqn x 0 := fun x => rfl
    have hsp : ∀ x y, sq0.sp x y = simp2 x y := fun x y => rfl
    have hse : ∀ x y : Rat, sq0.se x y = if y < x then 8 else 0 := fun x y => rfl
    simp only [qv_rat, hcq, hsq] at hcall
    rw [hsp, hse]
    rw [qoks_in (n := n) (d := d) (by omega) (by omega), qoks_in (n := m) (d := e) (by omega) (by omega)] at hcall
    generalize sq0.qv b n d = x at *
    generalize sq0.qv c m e = y at *
    have n1 := szq_neg x
    have n2 := szq_neg y
    rw [oks_rat (q := -y) (by omega), oks_rat (q := -x) (by omega)] at hcall
    rw [hcall]
    clear hcall
    unfold simp2
    by_cases g1 : y < x
    · rw [if_pos g1, if_pos g1, dT ((cq_gt _ _).2 g1), rat_zero]; rfl
    · rw [if_neg g1, if_neg g1, dF (fun h => g1 ((cq_gt _ _).1 h))]
      have tail : ¬ (x ≤ 0 ∧ 0 ≤ y) → (bif true then (bif decide (cqn y 0 < 0) then (bif true then (bif true then (bif kapB (-y) (-x) && true && true then (bif sq0.oks (sq0.qs (simp1 (-y) (-x))) (sq0.qd (simp1 (-y) (-x))) then some (AV.tup [AV.agg [AV.val (.bool (sq0.qn (-simp1 (-y) (-x)))), AV.val (.string (sq0.qs (-simp1 (-y) (-x)))), AV.val (.string (sq0.qd (-simp1 (-y) (-x))))], AV.val (.int .i64 0)]) else none) else none) else none) else none) else (bif kapB x y && true && true then some (AV.tup [AV.agg [AV.val (.bool (sq0.qn (simp1 x y))), AV.val (.string (sq0.qs (simp1 x y))), AV.val (.string (sq0.qd (simp1 x y)))], AV.val (.int .i64 0)]) else none)) else none) =
          some (AV.tup [sq0.rat (if y < 0 then -(simp1 (-y) (-x)) else simp1 x y), AV.val (.int .i64 0)]) := by
        intro hn
        by_cases g2 : y < 0
        · have k1 : kapB (-y) (-x) = true := by unfold kapB; rw [decide_eq_true_eq]; exact ⟨by grind, by grind, by omega, by omega⟩
          have sz := szq_simp (a := -y) (b := -x) (by grind) (by grind)
          rw [dT ((cq_lt _ _).2 g2), k1, oks_rat (q := simp1 (-y) (-x)) (by omega), if_pos g2]; rfl
        · have k1 : kapB x y = true := by
            unfold kapB; rw [decide_eq_true_eq]
            refine ⟨?_, by grind, by omega, by omega⟩
            rw [← Rat.not_le]; intro h; exact hn ⟨h, by grind⟩
          rw [dF (fun h => g2 ((cq_lt _ _).1 h)), k1, if_neg g2]; rfl
      by_cases g3 : x ≤ 0
      · rw [dT ((cq_le _ _).2 g3)]
        by_cases g4 : 0 ≤ y
        · rw [dT ((cq_ge _ _).2 g4), if_pos ⟨g3, g4⟩, rat_zero]; rfl
        · rw [dF (fun h => g4 ((cq_ge _ _).1 h)), if_neg (fun h => g4 h.2)]
          exact tail (fun h => g4 h.2)
      · rw [dF (fun h => g3 ((cq_le _ _).1 h)), if_neg (fun h => g3 h.1)]
        exact tail (fun h => g3 h.1)
  · cases h
/-! ### RationalRounds -/
def CUR (S : Sg) (Z : Qg) : FuncId → TF := addC 8 (tSimplest Z) (addC 9 (tRSimplest Z) (addC 10 (tQFloor S Z) (addC 11 (tRFloorQ S Z) (addC 12 (tQCeil S Z) (addC 13 (tRCeilQ S Z) (addC 7 tAwakeQ noC))))))
theorem CUR_ok : Meets Tryz.prog (CUR sg0 sq0) := (((((((meets_none _).add eAwakeQ).add eRCeilQ).add eQCeil).add eRFloorQ).add eQFloor).add eRSimplest).add eSimplest
theorem rounds_tree (S : Sg) (Z : Qg) (b c : Bool) (n d m e : ByteArray) : letI q_1 := (Z.sp (Z.qv b n d) (Z.qv c m e)); 
    (callA Tryz.prog ⟨CUR S Z, fun _ => false, noL⟩ 10 10 3 [.agg [.val (.bool b), .val (.string n), .val (.string d)], .agg [.val (.bool c), .val (.string m), .val (.string e)]] = (bif decide ((60 : Int) < (↑n.size : Int)) then some (.val (.bool true)) else (bif decide ((60 : Int) < (↑d.size : Int)) then some (.val (.bool true)) else (bif decide ((60 : Int) < (↑m.size : Int)) then some (.val (.bool true)) else (bif decide ((60 : Int) < (↑e.size : Int)) then some (.val (.bool true)) else (bif Z.oks n d && Z.oks m e then (bif ok6 n d && ok6 m e then (bif Z.ok n d then (bif Z.oks n d then (bif bif false then !(S.ng (Z.fl (Z.qv b n d)) == S.ng (Z.fl (Z.qv b n d)) && (strEq (S.ms (Z.fl (Z.qv b n d))) (S.ms (Z.fl (Z.qv b n d))) && true)) else S.ng (Z.fl (Z.qv b n d)) == S.ng (Z.fl (Z.qv b n d)) && (strEq (S.ms (Z.fl (Z.qv b n d))) (S.ms (Z.fl (Z.qv b n d))) && true) then (bif Z.ok n d then (bif Z.oks n d then (bif bif false then !(S.ng (Z.cl (Z.qv b n d)) == S.ng (Z.cl (Z.qv b n d)) && (strEq (S.ms (Z.cl (Z.qv b n d))) (S.ms (Z.cl (Z.qv b n d))) && true)) else S.ng (Z.cl (Z.qv b n d)) == S.ng (Z.cl (Z.qv b n d)) && (strEq (S.ms (Z.cl (Z.qv b n d))) (S.ms (Z.cl (Z.qv b n d))) && true) then (bif bif false then !(Z.qn q_1 == Z.qn q_1 && (strEq (Z.qs q_1) (Z.qs q_1) && (strEq (Z.qd q_1) (Z.qd q_1) && true))) else Z.qn q_1 == Z.qn q_1 && (strEq (Z.qs q_1) (Z.qs q_1) && (strEq (Z.qd q_1) (Z.qd q_1) && true)) then (bif decide (Z.se (Z.qv b n d) (Z.qv c m e) = Z.se (Z.qv b n d) (Z.qv c m e)) then some (.val (.bool true)) else some (.val (.bool false))) else some (.val (.bool false))) else some (.val (.bool false))) else none) else none) else some (.val (.bool false))) else none) else none) else none) else none)))))) := by kernel_rfl
theorem rounds_true (b c : Bool) (n d m e : ByteArray) : callA Tryz.prog ⟨CUR sg0 sq0, fun _ => false, noL⟩ 10 10 3 [.agg [.val (.bool b), .val (.string n), .val (.string d)], .agg [.val (.bool c), .val (.string m), .val (.string e)]] = some (.val (.bool true)) := by
  rw [rounds_tree]
  by_cases h1 : (60 : Int) < n.size
  · rw [dT h1]; rfl
  by_cases h2 : (60 : Int) < d.size
  · rw [dF h1, dT h2]; rfl
  by_cases h3 : (60 : Int) < m.size
  · rw [dF h1, dF h2, dT h3]; rfl
  by_cases h4 : (60 : Int) < e.size
  · rw [dF h1, dF h2, dF h3, dT h4]; rfl
  have k1 : ok6 n d = true := by unfold ok6; rw [Bool.and_eq_true, decide_eq_true_eq, decide_eq_true_eq]; omega
  have k2 : ok6 m e = true := by unfold ok6; rw [Bool.and_eq_true, decide_eq_true_eq, decide_eq_true_eq]; omega
  rw [dF h1, dF h2, dF h3, dF h4, k1, k2, qok_small (n := n) (d := d) (by omega) (by omega), qoks_small (n := n) (d := d) (by omega) (by omega), qoks_small (n := m) (d := e) (by omega) (by omega)]
  simp only [beq_self_eq_true, strEq_self, eq_self, decide_true]
  rfl
theorem rounds_walk (b : Bool) (n d : ByteArray) (c : Bool) (m e : ByteArray) (W : World) : Calls Tryz.prog 3 #[.agg #[.bool b, .string n, .string d], .agg #[.bool c, .string m, .string e]] W fun e w' => e = .returned (.bool true) ∧ Below W.heap.size W w' :=
  law_walk CUR_ok loops_none (by kernel_rfl) (rounds_true b c n d m e) W ⟨_, _, rfl, arg_rat _ _ b n d, _, _, rfl, arg_rat _ _ c m e, rfl⟩
end
end Go.Proofs.YtkmblomkocfldaaGreat.L
