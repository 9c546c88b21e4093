import Derived.Test.YtnmnglcdoegbiaaGreatZKB
import Derived.Test.YtnmnglcdoegbiaaGreatZKA
set_option linter.unusedVariables false
set_option linter.unusedSimpArgs false
namespace Go.Proofs.YtnmnglcdoegbiaaGreat.L
open Go Go.V Go.RowKit Go.Proofs.YtnmnglcdoegbiaaGreat.Sp
open Go.Proofs (Tryz.prog)
noncomputable section
end
end Go.Proofs.YtnmnglcdoegbiaaGreat.L
namespace Go.Proofs.YtnmnglcdoegbiaaGreat.L
open Go Go.V Go.RowKit Go.Proofs.YtnmnglcdoegbiaaGreat.Sp Go.Proofs.YtnmnglcdoegbiaaGreat.F
open Go.Proofs (Tryz.prog)
noncomputable section
theorem ok40 {n d : BA} (h1 : ¬ (40 : Int) < n.size) (h2 : ¬ (40 : Int) < d.size) : ok6 n d = true := by
  unfold ok6
  rw [decide_eq_true (show n.size ≤ 1000000 by omega), decide_eq_true (show d.size ≤ 1000000 by omega)]; rfl
theorem arg_pair (B : Nat → Prop) (w : World) (b : Bool) (n d : BA) (c : Bool) (m e : BA) : (AV.agg [.val (.bool b), .val (.string n), .val (.string d), .val (.bool c), .val (.string m), .val (.string e)]).Rel Tryz.prog NoA B w NoD (.agg #[.bool b, .string n, .string d, .bool c, .string m, .string e]) := ⟨_, rfl, _, _, rfl, rfl, _, _, rfl, rfl, _, _, rfl, rfl, _, _, rfl, rfl, _, _, rfl, rfl, _, _, rfl, rfl, rfl⟩
end
end Go.Proofs.YtnmnglcdoegbiaaGreat.L
namespace Go.Proofs.YtnmnglcdoegbiaaGreat.L
open Go Go.V Go.RowKit Go.Proofs.YtnmnglcdoegbiaaGreat.Sp
open Go.Proofs (Tryz.prog)
noncomputable section
def tAwakeR : TF := fun args => match args with | [] => some (true, .val (.bool true)) | _ => none
def CRx (Z : Qg) (K : Kg) : FuncId → TF := addC 27 (tKCheck K) (addC 53 (tKThen Z) (addC 54 (tKBack Z) (addC 55 (tKThen Z) (CKs Z))))
end
end Go.Proofs.YtnmnglcdoegbiaaGreat.L
namespace Go.Proofs.YtnmnglcdoegbiaaGreat.L
open Go Go.V Go.RowKit Go.Proofs.YtnmnglcdoegbiaaGreat.Sp Go.Proofs.YtnmnglcdoegbiaaGreat.F
open Go.Proofs (Tryz.prog)
noncomputable section
theorem eRKThen : Entry Tryz.prog 53 (tKThen sq0) := by
  refine entry_of (E := ⟨CKs sq0, Kall, noL⟩) (u := 10) (d := 10) CKs_ok loops_none mixed (by kernel_rfl) (fun args r h => ?_)
  unfold tKThen tK2 k2 at h
  split at h
  · rename_i b n d c m e b2 n2 d2 c2 m2 e2
    simp only [Option.some.injEq, Prod.mk.injEq, Bool.and_eq_true] at h
    obtain ⟨⟨⟨⟨h1, h2⟩, h3⟩, h4⟩, rfl⟩ := h
    have hcall := rkthen_tree sq0 b c b2 c2 n d m e n2 d2 m2 e2
    have z1 := ok6_sz (b := b) h1
    have z2 := ok6_sz (b := c) h2
    have z3 := ok6_sz (b := b2) h3
    have z4 := ok6_sz (b := c2) h4
    rw [ok6_oks h1, ok6_oks h2, ok6_oks h3, ok6_oks h4] at hcall
    generalize sq0.qv b n d = x at *
    generalize sq0.qv c m e = y at *
    generalize sq0.qv b2 n2 d2 = u at *
    generalize sq0.qv c2 m2 e2 = v at *
    have s1 := szq_mul x u
    have s2 := szq_mul y v
    have s3 := szq_mul y u
    have s4 := szq_mul x v
    have a1 := oks_rat (q := x * u) (by omega)
    have a2 := oks_rat (q := y * v) (by omega)
    have a3 := oks_rat (q := y * u) (by omega)
    have a4 := oks_rat (q := x * v) (by omega)
    simp only [qv_rat, a1, a2, a3, a4, Bool.and_self, cond_true] at hcall
    exact hcall
  · cases h
theorem eRKImage : Entry Tryz.prog 55 (tKThen sq0) := by
  refine entry_of (E := ⟨CKs sq0, Kall, noL⟩) (u := 10) (d := 10) CKs_ok loops_none mixed (by kernel_rfl) (fun args r h => ?_)
  unfold tKThen tK2 k2 at h
  split at h
  · rename_i b n d c m e b2 n2 d2 c2 m2 e2
    simp only [Option.some.injEq, Prod.mk.injEq, Bool.and_eq_true] at h
    obtain ⟨⟨⟨⟨h1, h2⟩, h3⟩, h4⟩, rfl⟩ := h
    have hcall := rkimage_tree sq0 b c b2 c2 n d m e n2 d2 m2 e2
    have z1 := ok6_sz (b := b) h1
    have z2 := ok6_sz (b := c) h2
    have z3 := ok6_sz (b := b2) h3
    have z4 := ok6_sz (b := c2) h4
    rw [ok6_oks h1, ok6_oks h2, ok6_oks h3, ok6_oks h4] at hcall
    generalize sq0.qv b n d = x at *
    generalize sq0.qv c m e = y at *
    generalize sq0.qv b2 n2 d2 = u at *
    generalize sq0.qv c2 m2 e2 = v at *
    have s1 := szq_mul x u
    have s2 := szq_mul y v
    have s3 := szq_mul y u
    have s4 := szq_mul x v
    have a1 := oks_rat (q := x * u) (by omega)
    have a2 := oks_rat (q := y * v) (by omega)
    have a3 := oks_rat (q := y * u) (by omega)
    have a4 := oks_rat (q := x * v) (by omega)
    simp only [qv_rat, a1, a2, a3, a4, Bool.and_self, cond_true] at hcall
    exact hcall
  · cases h
theorem eRKBack : Entry Tryz.prog 54 (tKBack sq0) := by
  refine entry_of (E := ⟨CKs sq0, Kall, noL⟩) (u := 10) (d := 10) CKs_ok loops_none mixed (by kernel_rfl) (fun args r h => ?_)
  unfold tKBack k1 at h
  split at h
  · rename_i b n d c m e
    simp only [Option.some.injEq, Prod.mk.injEq, Bool.and_eq_true] at h
    obtain ⟨⟨h1, h2⟩, rfl⟩ := h
    have hcall := rkback_tree sq0 b c n d m e
    rw [ok6_oks h2] at hcall
    exact hcall
  · cases h
theorem eRKOf : Entry Tryz.prog 29 (tKOf sq0) := by
  refine entry_of (E := ⟨CKs sq0, Kall, noL⟩) (u := 10) (d := 10) CKs_ok loops_none mixed (by kernel_rfl) (fun args r h => ?_)
  unfold tKOf k0 at h
  split at h
  · rename_i b n d
    simp only [Option.some.injEq, Prod.mk.injEq] at h
    obtain ⟨h1, rfl⟩ := h
    have hcall := rkof_tree sq0 b n d
    have z1 := ok6_sz (b := b) h1
    rw [ok6_oks h1] at hcall
    generalize sq0.qv b n d = t at *
    have s1 := szq_mul t t
    have s2 := szq_add 1 (t * t)
    have s3 := szq_sub 1 (t * t)
    have s4 := szq_add t t
    have s5 := szq_one
    have a1 := oks_rat (q := t * t) (by omega)
    have a2 := oks_rat (q := 1 + t * t) (by omega)
    have a3 := oks_rat (q := 1 - t * t) (by omega)
    have a4 := oks_rat (q := t + t) (by omega)
    have a5 := oks_rat (q := (1 : Rat)) (by omega)
    simp only [qv_rat, fr_11, a1, a2, a3, a4, a5, Bool.and_self, cond_true] at hcall
    exact hcall
  · cases h
theorem CRx_ok : Meets Tryz.prog (CRx sq0 kg0) := (((CKs_ok.add eRKImage).add eRKBack).add eRKThen).add eRKCheck
end
end Go.Proofs.YtnmnglcdoegbiaaGreat.L
namespace Go.Proofs.YtnmnglcdoegbiaaGreat.L
open Go Go.V Go.RowKit Go.Proofs.YtnmnglcdoegbiaaGreat.Sp
open Go.Proofs (Tryz.prog)
noncomputable section
def CRy (Z : Qg) (K : Kg) : FuncId → TF := addC 69 (tKUpper Z K) (addC 68 (tRKComp Z K) (CRx Z K))
theorem rxcompare_tree (Z : Qg) (K : Kg) (b c b2 c2 : Bool) (n d m e n2 d2 m2 e2 : BA) : callA Tryz.prog ⟨CRy Z K, Kall, noL⟩ 10 10 34 [av6 b n d c m e, av6 b2 n2 d2 c2 m2 e2] =
    (bif ok6 n d && ok6 m e then (bif !decide (K.kc b n d c m e = (0 : Int)) then some (.tup [(.val (.int .i64 0)), (.val (.int .i64 1))]) else (bif ok6 n2 d2 && ok6 m2 e2 then (bif !decide (K.kc b2 n2 d2 c2 m2 e2 = (0 : Int)) then some (.tup [(.val (.int .i64 0)), (.val (.int .i64 1))]) else (bif ok6 n d && ok6 m e && ok6 n2 d2 && ok6 m2 e2 && K.un (Z.qv b n d) (Z.qv c m e) && K.un (Z.qv b2 n2 d2) (Z.qv c2 m2 e2) then some (.tup [(.val (.int .i64 (K.cm (Z.qv b n d) (Z.qv c m e) (Z.qv b2 n2 d2) (Z.qv c2 m2 e2)))), (.val (.int .i64 0))]) else none)) else none)) else none) := by kernel_rfl
theorem rxbetween_tree (Z : Qg) (K : Kg) (b c b2 c2 b3 c3 : Bool) (n d m e n2 d2 m2 e2 n3 d3 m3 e3 : BA) : letI q_1 := (Z.qv b n d * Z.qv b2 n2 d2 - Z.qv (Z.qn (-Z.qv c m e)) (Z.qs (-Z.qv c m e)) (Z.qd (-Z.qv c m e)) * Z.qv c2 m2 e2); letI q_2 := (Z.qv (Z.qn (-Z.qv c m e)) (Z.qs (-Z.qv c m e)) (Z.qd (-Z.qv c m e)) * Z.qv b2 n2 d2 + Z.qv b n d * Z.qv c2 m2 e2); letI q_3 := (Z.qv b n d * Z.qv b3 n3 d3 - Z.qv (Z.qn (-Z.qv c m e)) (Z.qs (-Z.qv c m e)) (Z.qd (-Z.qv c m e)) * Z.qv c3 m3 e3); letI q_4 := (Z.qv (Z.qn (-Z.qv c m e)) (Z.qs (-Z.qv c m e)) (Z.qd (-Z.qv c m e)) * Z.qv b3 n3 d3 + Z.qv b n d * Z.qv c3 m3 e3);
    (callA Tryz.prog ⟨CRy Z K, Kall, noL⟩ 10 10 36 [av6 b n d c m e, av6 b2 n2 d2 c2 m2 e2, av6 b3 n3 d3 c3 m3 e3] = (bif ok6 n d && ok6 m e then (bif !decide (K.kc b n d c m e = (0 : Int)) then some (.tup [(.val (.bool false)), (.val (.int .i64 1))]) else (bif ok6 n2 d2 && ok6 m2 e2 then (bif !decide (K.kc b2 n2 d2 c2 m2 e2 = (0 : Int)) then some (.tup [(.val (.bool false)), (.val (.int .i64 1))]) else (bif ok6 n3 d3 && ok6 m3 e3 then (bif !decide (K.kc b3 n3 d3 c3 m3 e3 = (0 : Int)) then some (.tup [(.val (.bool false)), (.val (.int .i64 1))]) else (bif ok6 n d && ok6 m e then (bif ok6 n d && ok6 (Z.qs (-Z.qv c m e)) (Z.qd (-Z.qv c m e)) && ok6 n2 d2 && ok6 m2 e2 then (bif ok6 n d && ok6 m e then (bif ok6 n d && ok6 (Z.qs (-Z.qv c m e)) (Z.qd (-Z.qv c m e)) && ok6 n3 d3 && ok6 m3 e3 then (bif ok6 (Z.qs q_1) (Z.qd q_1) && ok6 (Z.qs q_2) (Z.qd q_2) && ok6 (Z.qs q_3) (Z.qd q_3) && ok6 (Z.qs q_4) (Z.qd q_4) && K.un (Z.qv (Z.qn q_1) (Z.qs q_1) (Z.qd q_1)) (Z.qv (Z.qn q_2) (Z.qs q_2) (Z.qd q_2)) && K.un (Z.qv (Z.qn q_3) (Z.qs q_3) (Z.qd q_3)) (Z.qv (Z.qn q_4) (Z.qs q_4) (Z.qd q_4)) then some (.tup [(.val (.bool (decide (K.cm (Z.qv (Z.qn q_1) (Z.qs q_1) (Z.qd q_1)) (Z.qv (Z.qn q_2) (Z.qs q_2) (Z.qd q_2)) (Z.qv (Z.qn q_3) (Z.qs q_3) (Z.qd q_3)) (Z.qv (Z.qn q_4) (Z.qs q_4) (Z.qd q_4)) ≤ (0 : Int))))), (.val (.int .i64 0))]) else none) else none) else none) else none) else none)) else none)) else none)) else none)) := by kernel_rfl
theorem rxcorner_tree (Z : Qg) (K : Kg) (b c b2 c2 b3 c3 : Bool) (n d m e n2 d2 m2 e2 n3 d3 m3 e3 : BA) : letI q_12 := (Z.fr (1 : Int) (1 : Int)); letI q_4 := (Z.qv b n d * Z.qv b2 n2 d2 - Z.qv (Z.qn (-Z.qv c m e)) (Z.qs (-Z.qv c m e)) (Z.qd (-Z.qv c m e)) * Z.qv c2 m2 e2); letI q_1 := (Z.qv (Z.qn q_12) (Z.qs q_12) (Z.qd q_12) + Z.qv (Z.qn q_4) (Z.qs q_4) (Z.qd q_4)); letI q_8 := (Z.qv b n d * Z.qv b3 n3 d3 - Z.qv c m e * Z.qv c3 m3 e3); letI q_6 := (Z.qv b2 n2 d2 * Z.qv b3 n3 d3 - Z.qv c2 m2 e2 * Z.qv c3 m3 e3); letI q_2 := (Z.qv (Z.qn q_8) (Z.qs q_8) (Z.qd q_8) + Z.qv (Z.qn q_6) (Z.qs q_6) (Z.qd q_6)); letI q_9 := (Z.qv c m e * Z.qv b3 n3 d3 + Z.qv b n d * Z.qv c3 m3 e3); letI q_7 := (Z.qv c2 m2 e2 * Z.qv b3 n3 d3 + Z.qv b2 n2 d2 * Z.qv c3 m3 e3); letI q_3 := (Z.qv (Z.qn q_9) (Z.qs q_9) (Z.qd q_9) + Z.qv (Z.qn q_7) (Z.qs q_7) (Z.qd q_7)); letI q_5 := (Z.qv (Z.qn (-Z.qv c m e)) (Z.qs (-Z.qv c m e)) (Z.qd (-Z.qv c m e)) * Z.qv b2 n2 d2 + Z.qv b n d * Z.qv c2 m2 e2); letI q_10 := (Z.qv (Z.qn q_2) (Z.qs q_2) (Z.qd q_2) / Z.qv (Z.qn q_1) (Z.qs q_1) (Z.qd q_1)); letI q_11 := (Z.qv (Z.qn q_3) (Z.qs q_3) (Z.qd q_3) / Z.qv (Z.qn q_1) (Z.qs q_1) (Z.qd q_1));
    (callA Tryz.prog ⟨CRy Z K, Kall, noL⟩ 10 10 39 [av6 b n d c m e, av6 b2 n2 d2 c2 m2 e2, av6 b3 n3 d3 c3 m3 e3] = (bif ok6 n d && ok6 m e then (bif !decide (K.kc b n d c m e = (0 : Int)) then some (.tup [(.agg [(.val (.bool false)), (.val (.string (ByteArray.mk #[]))), (.val (.string (ByteArray.mk #[]))), (.val (.bool false)), (.val (.string (ByteArray.mk #[]))), (.val (.string (ByteArray.mk #[])))]), (.val (.int .i64 1))]) else (bif ok6 n2 d2 && ok6 m2 e2 then (bif !decide (K.kc b2 n2 d2 c2 m2 e2 = (0 : Int)) then some (.tup [(.agg [(.val (.bool false)), (.val (.string (ByteArray.mk #[]))), (.val (.string (ByteArray.mk #[]))), (.val (.bool false)), (.val (.string (ByteArray.mk #[]))), (.val (.string (ByteArray.mk #[])))]), (.val (.int .i64 1))]) else (bif ok6 n d && ok6 m e then (bif ok6 n d && ok6 (Z.qs (-Z.qv c m e)) (Z.qd (-Z.qv c m e)) && ok6 n2 d2 && ok6 m2 e2 then (bif ok6 (Z.qs q_4) (Z.qd q_4) && ok6 (Z.qs q_5) (Z.qd q_5) && K.un (Z.qv (Z.qn q_4) (Z.qs q_4) (Z.qd q_4)) (Z.qv (Z.qn q_5) (Z.qs q_5) (Z.qd q_5)) then (bif !K.up (Z.qv (Z.qn q_4) (Z.qs q_4) (Z.qd q_4)) (Z.qv (Z.qn q_5) (Z.qs q_5) (Z.qd q_5)) then some (.tup [(.agg [(.val (.bool false)), (.val (.string (ByteArray.mk #[]))), (.val (.string (ByteArray.mk #[]))), (.val (.bool false)), (.val (.string (ByteArray.mk #[]))), (.val (.string (ByteArray.mk #[])))]), (.val (.int .i64 2))]) else (bif ok6 n d && ok6 m e && ok6 n3 d3 && ok6 m3 e3 then (bif ok6 n2 d2 && ok6 m2 e2 && ok6 n3 d3 && ok6 m3 e3 then (bif Z.oks (Z.qs q_12) (Z.qd q_12) && Z.oks (Z.qs q_4) (Z.qd q_4) then (bif Z.oks (Z.qs q_8) (Z.qd q_8) && Z.oks (Z.qs q_6) (Z.qd q_6) then (bif Z.oks (Z.qs q_2) (Z.qd q_2) && Z.oks (Z.qs q_1) (Z.qd q_1) then (bif Z.oks (Z.qs q_9) (Z.qd q_9) && Z.oks (Z.qs q_7) (Z.qd q_7) then (bif Z.oks (Z.qs q_3) (Z.qd q_3) && Z.oks (Z.qs q_1) (Z.qd q_1) then some (.tup [(.agg [(.val (.bool (Z.qn q_10))), (.val (.string (Z.qs q_10))), (.val (.string (Z.qd q_10))), (.val (.bool (Z.qn q_11))), (.val (.string (Z.qs q_11))), (.val (.string (Z.qd q_11)))]), (.val (.int .i64 0))]) else none) else none) else none) else none) else none) else none) else none)) else none) else none) else none)) else none)) else none)) := by kernel_rfl
end
end Go.Proofs.YtnmnglcdoegbiaaGreat.L
namespace Go.Proofs.YtnmnglcdoegbiaaGreat.L
open Go Go.V Go.RowKit Go.Proofs.YtnmnglcdoegbiaaGreat.Sp
open Go.Proofs (Tryz.prog)
noncomputable section
def CRmid (Z : Qg) (K : Kg) : FuncId → TF := addC 29 (vOf Z K) (CRy Z K)
theorem rxmiddle_tree (Z : Qg) (K : Kg) (b c b2 c2 : Bool) (n d m e n2 d2 m2 e2 : BA) : letI y0 := (-Z.qv c m e); letI D1 := ((Z.qv b n d) * (Z.qv b2 n2 d2) - (Z.qv (Z.qn y0) (Z.qs y0) (Z.qd y0)) * (Z.qv c2 m2 e2)); letI D2 := ((Z.qv (Z.qn y0) (Z.qs y0) (Z.qd y0)) * (Z.qv b2 n2 d2) + (Z.qv b n d) * (Z.qv c2 m2 e2)); letI N9 := (Z.fr (1 : Int) (1 : Int)); letI S := ((Z.qv (Z.qn N9) (Z.qs N9) (Z.qd N9)) + (Z.qv (Z.qn D1) (Z.qs D1) (Z.qd D1))); letI T := ((Z.qv (Z.qn D2) (Z.qs D2) (Z.qd D2)) / (Z.qv (Z.qn S) (Z.qs S) (Z.qd S))); letI H := (Z.fr (3 : Int) (1 : Int)); letI Q1 := ((Z.qv (Z.qn T) (Z.qs T) (Z.qd T)) / (Z.qv (Z.qn H) (Z.qs H) (Z.qd H))); letI Q8 := ((Z.qv (Z.qn Q1) (Z.qs Q1) (Z.qd Q1)) + (Z.qv (Z.qn Q1) (Z.qs Q1) (Z.qd Q1))); letI P := (Z.sp (Z.qv (Z.qn Q1) (Z.qs Q1) (Z.qd Q1)) (Z.qv (Z.qn Q8) (Z.qs Q8) (Z.qd Q8))); letI E := (K.o1 (Z.qv (Z.qn P) (Z.qs P) (Z.qd P))); letI F := (K.o2 (Z.qv (Z.qn P) (Z.qs P) (Z.qd P))); letI M1 := ((Z.qv b n d) * (Z.qv (Z.qn E) (Z.qs E) (Z.qd E)) - (Z.qv c m e) * (Z.qv (Z.qn F) (Z.qs F) (Z.qd F))); letI M2 := ((Z.qv c m e) * (Z.qv (Z.qn E) (Z.qs E) (Z.qd E)) + (Z.qv b n d) * (Z.qv (Z.qn F) (Z.qs F) (Z.qd F))); letI R1 := ((Z.qv b n d) * (Z.qv false (ByteArray.mk #[]) (ByteArray.mk #[])) - (Z.qv c m e) * (Z.qv (Z.qn N9) (Z.qs N9) (Z.qd N9))); letI R2 := ((Z.qv c m e) * (Z.qv false (ByteArray.mk #[]) (ByteArray.mk #[])) + (Z.qv b n d) * (Z.qv (Z.qn N9) (Z.qs N9) (Z.qd N9)));
    (callA Tryz.prog ⟨CRmid Z K, Kall, noL⟩ 10 10 37 [av6 b n d c m e, av6 b2 n2 d2 c2 m2 e2] = (bif ok6 n d && ok6 m e then (bif !decide (K.kc b n d c m e = (0 : Int)) then some (.tup [(.agg [(.val (.bool false)), (.val (.string (ByteArray.mk #[]))), (.val (.string (ByteArray.mk #[]))), (.val (.bool false)), (.val (.string (ByteArray.mk #[]))), (.val (.string (ByteArray.mk #[])))]), (.val (.int .i64 1))]) else (bif ok6 n2 d2 && ok6 m2 e2 then (bif !decide (K.kc b2 n2 d2 c2 m2 e2 = (0 : Int)) then some (.tup [(.agg [(.val (.bool false)), (.val (.string (ByteArray.mk #[]))), (.val (.string (ByteArray.mk #[]))), (.val (.bool false)), (.val (.string (ByteArray.mk #[]))), (.val (.string (ByteArray.mk #[])))]), (.val (.int .i64 1))]) else (bif ok6 n d && ok6 m e then (bif ok6 n d && ok6 (Z.qs y0) (Z.qd y0) && ok6 n2 d2 && ok6 m2 e2 then (bif bif false then !(Z.qn D1 == Z.qn N9 && (strEq (Z.qs D1) (Z.qs N9) && (strEq (Z.qd D1) (Z.qd N9) && true)) && (Z.qn D2 == false && (strEq (Z.qs D2) (ByteArray.mk #[]) && (strEq (Z.qd D2) (ByteArray.mk #[]) && true)) && true)) else Z.qn D1 == Z.qn N9 && (strEq (Z.qs D1) (Z.qs N9) && (strEq (Z.qd D1) (Z.qd N9) && true)) && (Z.qn D2 == false && (strEq (Z.qs D2) (ByteArray.mk #[]) && (strEq (Z.qd D2) (ByteArray.mk #[]) && true)) && true) then some (.tup [(.agg [(.val (.bool false)), (.val (.string (ByteArray.mk #[]))), (.val (.string (ByteArray.mk #[]))), (.val (.bool false)), (.val (.string (ByteArray.mk #[]))), (.val (.string (ByteArray.mk #[])))]), (.val (.int .i64 12))]) else (bif ok6 (Z.qs D1) (Z.qd D1) && ok6 (Z.qs D2) (Z.qd D2) && K.un (Z.qv (Z.qn D1) (Z.qs D1) (Z.qd D1)) (Z.qv (Z.qn D2) (Z.qs D2) (Z.qd D2)) then (bif !K.up (Z.qv (Z.qn D1) (Z.qs D1) (Z.qd D1)) (Z.qv (Z.qn D2) (Z.qs D2) (Z.qd D2)) then (bif ok6 n d && ok6 m e && true && ok6 (Z.qs N9) (Z.qd N9) then some (.tup [(Z.pair R1 R2), (.val (.int .i64 0))]) else none) else (bif Z.oks (Z.qs N9) (Z.qd N9) && Z.oks (Z.qs D1) (Z.qd D1) then (bif Z.oks (Z.qs D2) (Z.qd D2) && Z.oks (Z.qs S) (Z.qd S) then (bif Z.oks (Z.qs T) (Z.qd T) && Z.oks (Z.qs H) (Z.qd H) then (bif Z.oks (Z.qs Q1) (Z.qd Q1) && Z.oks (Z.qs Q1) (Z.qd Q1) then (bif ok6 (Z.qs Q1) (Z.qd Q1) && ok6 (Z.qs Q8) (Z.qd Q8) then (bif ok6 (Z.qs P) (Z.qd P) then (bif ok6 n d && ok6 m e && ok6 (Z.qs E) (Z.qd E) && ok6 (Z.qs F) (Z.qd F) then some (.tup [(Z.pair M1 M2), (.val (.int .i64 0))]) else none) else none) else none) else none) else none) else none) else none)) else none)) else none) else none)) else none)) else none)) := by kernel_rfl
end
end Go.Proofs.YtnmnglcdoegbiaaGreat.L
namespace Go.Proofs.YtnmnglcdoegbiaaGreat.L
open Go Go.V Go.RowKit Go.Proofs.YtnmnglcdoegbiaaGreat.Sp Go.Proofs.YtnmnglcdoegbiaaGreat.F
open Go.Proofs (Tryz.prog)
noncomputable section
def fBetween (Z : Qg) (K : Kg) : TF := k3 fun b n d c m e b2 n2 d2 c2 m2 e2 b3 n3 d3 c3 m3 e3 => some (ok5 n d && ok5 m e && ok5 n2 d2 && ok5 m2 e2 && ok5 n3 d3 && ok5 m3 e3, .tup [.val (.bool (K.seb (K.or3 (K.kc b n d c m e) (K.kc b2 n2 d2 c2 m2 e2) (K.kc b3 n3 d3 c3 m3 e3)) (K.bt (Z.qv b n d) (Z.qv c m e) (Z.qv b2 n2 d2) (Z.qv c2 m2 e2) (Z.qv b3 n3 d3) (Z.qv c3 m3 e3)))), .val (.int .i64 (K.or3 (K.kc b n d c m e) (K.kc b2 n2 d2 c2 m2 e2) (K.kc b3 n3 d3 c3 m3 e3)))])
def fMiddle (Z : Qg) (K : Kg) : TF := k2 fun b n d c m e b2 n2 d2 c2 m2 e2 => some (ok5 n d && ok5 m e && ok5 n2 d2 && ok5 m2 e2, .tup [Z.pair (K.sel (K.mk1 (K.kc b n d c m e) (K.kc b2 n2 d2 c2 m2 e2) (Z.qv b n d) (Z.qv c m e) (Z.qv b2 n2 d2) (Z.qv c2 m2 e2)) (K.m1 (Z.qv b n d) (Z.qv c m e) (Z.qv b2 n2 d2) (Z.qv c2 m2 e2))) (K.sel (K.mk1 (K.kc b n d c m e) (K.kc b2 n2 d2 c2 m2 e2) (Z.qv b n d) (Z.qv c m e) (Z.qv b2 n2 d2) (Z.qv c2 m2 e2)) (K.m2 (Z.qv b n d) (Z.qv c m e) (Z.qv b2 n2 d2) (Z.qv c2 m2 e2))), .val (.int .i64 (K.mk1 (K.kc b n d c m e) (K.kc b2 n2 d2 c2 m2 e2) (Z.qv b n d) (Z.qv c m e) (Z.qv b2 n2 d2) (Z.qv c2 m2 e2)))])
def fCorner (Z : Qg) (K : Kg) : TF := k3 fun b n d c m e b2 n2 d2 c2 m2 e2 b3 n3 d3 c3 m3 e3 => some (ok5 n d && ok5 m e && ok5 n2 d2 && ok5 m2 e2 && ok5 n3 d3 && ok5 m3 e3, .tup [Z.pair (K.sel (K.ck (K.kc b n d c m e) (K.kc b2 n2 d2 c2 m2 e2) (Z.qv b n d) (Z.qv c m e) (Z.qv b2 n2 d2) (Z.qv c2 m2 e2)) (K.c1 (Z.qv b n d) (Z.qv c m e) (Z.qv b2 n2 d2) (Z.qv c2 m2 e2) (Z.qv b3 n3 d3) (Z.qv c3 m3 e3))) (K.sel (K.ck (K.kc b n d c m e) (K.kc b2 n2 d2 c2 m2 e2) (Z.qv b n d) (Z.qv c m e) (Z.qv b2 n2 d2) (Z.qv c2 m2 e2)) (K.c2 (Z.qv b n d) (Z.qv c m e) (Z.qv b2 n2 d2) (Z.qv c2 m2 e2) (Z.qv b3 n3 d3) (Z.qv c3 m3 e3))), .val (.int .i64 (K.ck (K.kc b n d c m e) (K.kc b2 n2 d2 c2 m2 e2) (Z.qv b n d) (Z.qv c m e) (Z.qv b2 n2 d2) (Z.qv c2 m2 e2)))])
def xBad2 (K : Kg) (v : AV) : TF := k2 fun b n d c m e b2 n2 d2 c2 m2 e2 => some (ok5 n d && ok5 m e && ok5 n2 d2 && ok5 m2 e2 && !(decide (K.kc b n d c m e = 0) && decide (K.kc b2 n2 d2 c2 m2 e2 = 0)), .tup [v, .val (.int .i64 1)])
def xBadC (K : Kg) (v : AV) : TF := k3 fun b n d c m e b2 n2 d2 c2 m2 e2 b3 n3 d3 c3 m3 e3 => some (ok5 n d && ok5 m e && ok5 n2 d2 && ok5 m2 e2 && !(decide (K.kc b n d c m e = 0) && decide (K.kc b2 n2 d2 c2 m2 e2 = 0)), .tup [v, .val (.int .i64 1)])
def xBad3 (K : Kg) (v : AV) : TF := k3 fun b n d c m e b2 n2 d2 c2 m2 e2 b3 n3 d3 c3 m3 e3 => some (ok5 n d && ok5 m e && ok5 n2 d2 && ok5 m2 e2 && ok5 n3 d3 && ok5 m3 e3 && !(decide (K.kc b n d c m e = 0) && decide (K.kc b2 n2 d2 c2 m2 e2 = 0) && decide (K.kc b3 n3 d3 c3 m3 e3 = 0)), .tup [v, .val (.int .i64 1)])
theorem or3_n {k l m : Int} (h : ¬ (k = 0 ∧ l = 0 ∧ m = 0)) : kg0.or3 k l m = 1 := by
  show or2n k (or2n l m) = 1
  unfold or2n
  by_cases a : k = 0
  · by_cases b : l = 0 ∧ m = 0
    · exact absurd ⟨a, b.1, b.2⟩ h
    · rw [if_neg b]; exact if_neg (fun g => absurd g.2 (by decide))
  · rw [if_neg (fun g => a g.1)]
theorem mk_n {k l : Int} (x y u v : Rat) (h : ¬ (k = 0 ∧ l = 0)) : kg0.mk1 k l x y u v = 1 := by
  show (if or2n k l = 0 then (if x = u ∧ y = v then (12 : Int) else 0) else 1) = 1
  unfold or2n
  rw [if_neg h, if_neg (by decide)]
theorem ck_n {k l : Int} (x y u v : Rat) (h : ¬ (k = 0 ∧ l = 0)) : kg0.ck k l x y u v = 1 := by
  show (if or2n k l = 0 then (if hfn (d1 x y u v) (d2 x y u v) = 1 then (2 : Int) else 0) else 1) = 1
  unfold or2n
  rw [if_neg h, if_neg (by decide)]
theorem bad_2 {p q : Prop} [Decidable p] [Decidable q] (h : (!(decide p && decide q)) = true) : ¬ (p ∧ q) := fun g => by
  rw [decide_eq_true g.1, decide_eq_true g.2] at h; exact absurd h (by decide)
theorem bad_3 {p q r : Prop} [Decidable p] [Decidable q] [Decidable r] (h : (!(decide p && decide q && decide r)) = true) : ¬ (p ∧ q ∧ r) := fun g => by
  rw [decide_eq_true g.1, decide_eq_true g.2.1, decide_eq_true g.2.2] at h; exact absurd h (by decide)
theorem bad_2' {p q : Prop} [Decidable p] [Decidable q] (h : ¬ (p ∧ q)) : (!(decide p && decide q)) = true := by
  by_cases a : p
  · rw [decide_eq_true a, decide_eq_false (fun b => h ⟨a, b⟩)]; rfl
  · rw [decide_eq_false a]; rfl
theorem bad_3' {p q r : Prop} [Decidable p] [Decidable q] [Decidable r] (h : ¬ (p ∧ q ∧ r)) : (!(decide p && decide q && decide r)) = true := by
  by_cases a : p
  · by_cases b : q
    · rw [decide_eq_true a, decide_eq_true b, decide_eq_false (fun c => h ⟨a, b, c⟩)]; rfl
    · rw [decide_eq_true a, decide_eq_false b]; rfl
  · rw [decide_eq_false a]; rfl
theorem fMiddle_of {g : FuncId} (h1 : Entry Tryz.prog g (vMiddle sq0 kg0)) (h2 : Entry Tryz.prog g (xBad2 kg0 (sq0.pair 0 0))) : Entry Tryz.prog g (fMiddle sq0 kg0) := fun args r h => by
  unfold fMiddle k2 at h
  split at h
  · rename_i b n d c m e b2 n2 d2 c2 m2 e2
    simp only [Option.some.injEq, Prod.mk.injEq, Bool.and_eq_true] at h
    obtain ⟨⟨⟨⟨o1, o2⟩, o3⟩, o4⟩, rfl⟩ := h
    by_cases k : kg0.kc b n d c m e = 0 ∧ kg0.kc b2 n2 d2 c2 m2 e2 = 0
    · refine h1 _ _ ?_
      unfold vMiddle vM2 k2
      simp only [o1, o2, o3, o4, k.1, k.2]
      rfl
    · refine h2 _ _ ?_
      unfold xBad2 k2
      simp only [o1, o2, o3, o4, bad_2' k, mk_n _ _ _ _ k, sel_1]
      rfl
  · cases h
theorem fCorner_of {g : FuncId} (h1 : Entry Tryz.prog g (vCorner sq0 kg0)) (h2 : Entry Tryz.prog g (xBadC kg0 (sq0.pair 0 0))) : Entry Tryz.prog g (fCorner sq0 kg0) := fun args r h => by
  unfold fCorner k3 at h
  split at h
  · rename_i b n d c m e b2 n2 d2 c2 m2 e2 b3 n3 d3 c3 m3 e3
    simp only [Option.some.injEq, Prod.mk.injEq, Bool.and_eq_true] at h
    obtain ⟨⟨⟨⟨⟨⟨o1, o2⟩, o3⟩, o4⟩, o5⟩, o6⟩, rfl⟩ := h
    by_cases k : kg0.kc b n d c m e = 0 ∧ kg0.kc b2 n2 d2 c2 m2 e2 = 0
    · refine h1 _ _ ?_
      unfold vCorner vKQ k3
      simp only [o1, o2, o3, o4, o5, o6, k.1, k.2]
      rfl
    · refine h2 _ _ ?_
      unfold xBadC k3
      simp only [o1, o2, o3, o4, bad_2' k, ck_n _ _ _ _ k, sel_1]
      rfl
  · cases h
theorem fBetween_of {g : FuncId} (h1 : Entry Tryz.prog g (vBetween sq0 kg0)) (h2 : Entry Tryz.prog g (xBad3 kg0 (.val (.bool false)))) : Entry Tryz.prog g (fBetween sq0 kg0) := fun args r h => by
  unfold fBetween k3 at h
  split at h
  · rename_i b n d c m e b2 n2 d2 c2 m2 e2 b3 n3 d3 c3 m3 e3
    simp only [Option.some.injEq, Prod.mk.injEq, Bool.and_eq_true] at h
    obtain ⟨⟨⟨⟨⟨⟨o1, o2⟩, o3⟩, o4⟩, o5⟩, o6⟩, rfl⟩ := h
    by_cases k : kg0.kc b n d c m e = 0 ∧ kg0.kc b2 n2 d2 c2 m2 e2 = 0 ∧ kg0.kc b3 n3 d3 c3 m3 e3 = 0
    · refine h1 _ _ ?_
      unfold vBetween vK3 k3
      simp only [o1, o2, o3, o4, o5, o6, k.1, k.2.1, k.2.2]
      rfl
    · refine h2 _ _ ?_
      unfold xBad3 k3
      simp only [o1, o2, o3, o4, o5, o6, bad_3' k, or3_n k]
      rfl
  · cases h
theorem eMidBad : Entry Tryz.prog 31 (xBad2 kg0 (sq0.pair 0 0)) := by
  refine entry_of (E := ⟨CKm sg0 sq0 kg0, Kall, noL⟩) (u := 10) (d := 10) CKm_ok loops_none mixed (by kernel_rfl) (fun args r h => ?_)
  unfold xBad2 k2 at h
  split at h
  · rename_i b n d c m e b2 n2 d2 c2 m2 e2
    rw [Option.some.injEq, Prod.mk.injEq, Bool.and_eq_true, Bool.and_eq_true, Bool.and_eq_true, Bool.and_eq_true] at h
    obtain ⟨⟨⟨⟨⟨o1, o2⟩, o3⟩, o4⟩, k⟩, rfl⟩ := h
    have hcall := xmiddle_tree sg0 sq0 kg0 b c b2 c2 n d m e n2 d2 m2 e2
    rw [ok5_6 o1, ok5_6 o2, ok5_6 o3, ok5_6 o4] at hcall
    rw [hcall, pair_zero]
    have k := bad_2 k
    by_cases a : kg0.kc b n d c m e = 0
    · rw [dT a, dF (fun g => k ⟨a, g⟩)]; rfl
    · rw [dF a]; rfl
  · cases h
theorem eCorBad : Entry Tryz.prog 38 (xBadC kg0 (sq0.pair 0 0)) := by
  refine entry_of (E := ⟨CKx sg0 sq0 kg0, Kall, noL⟩) (u := 10) (d := 10) CKx_ok loops_none mixed (by kernel_rfl) (fun args r h => ?_)
  unfold xBadC k3 at h
  split at h
  · rename_i b n d c m e b2 n2 d2 c2 m2 e2 b3 n3 d3 c3 m3 e3
    rw [Option.some.injEq, Prod.mk.injEq, Bool.and_eq_true, Bool.and_eq_true, Bool.and_eq_true, Bool.and_eq_true] at h
    obtain ⟨⟨⟨⟨⟨o1, o2⟩, o3⟩, o4⟩, k⟩, rfl⟩ := h
    have hcall := xcorner_tree sg0 sq0 kg0 b c b2 c2 b3 c3 n d m e n2 d2 m2 e2 n3 d3 m3 e3
    rw [ok5_6 o1, ok5_6 o2, ok5_6 o3, ok5_6 o4] at hcall
    rw [hcall, pair_zero]
    have k := bad_2 k
    by_cases a : kg0.kc b n d c m e = 0
    · rw [dT a, dF (fun g => k ⟨a, g⟩)]; rfl
    · rw [dF a]; rfl
  · cases h
theorem eBetBad : Entry Tryz.prog 35 (xBad3 kg0 (.val (.bool false))) := by
  refine entry_of (E := ⟨CKx sg0 sq0 kg0, Kall, noL⟩) (u := 10) (d := 10) CKx_ok loops_none mixed (by kernel_rfl) (fun args r h => ?_)
  unfold xBad3 k3 at h
  split at h
  · rename_i b n d c m e b2 n2 d2 c2 m2 e2 b3 n3 d3 c3 m3 e3
    rw [Option.some.injEq, Prod.mk.injEq, Bool.and_eq_true, Bool.and_eq_true, Bool.and_eq_true, Bool.and_eq_true, Bool.and_eq_true, Bool.and_eq_true] at h
    obtain ⟨⟨⟨⟨⟨⟨⟨o1, o2⟩, o3⟩, o4⟩, o5⟩, o6⟩, k⟩, rfl⟩ := h
    have hcall := xbetween_tree sg0 sq0 kg0 b c b2 c2 b3 c3 n d m e n2 d2 m2 e2 n3 d3 m3 e3
    rw [ok5_6 o1, ok5_6 o2, ok5_6 o3, ok5_6 o4, ok5_6 o5, ok5_6 o6] at hcall
    rw [hcall]
    have k := bad_3 k
    by_cases a : kg0.kc b n d c m e = 0
    · by_cases a2 : kg0.kc b2 n2 d2 c2 m2 e2 = 0
      · rw [dT a, dT a2, dF (fun g => k ⟨a, a2, g⟩)]; rfl
      · rw [dT a, dF a2]; rfl
    · rw [dF a]; rfl
  · cases h
end
end Go.Proofs.YtnmnglcdoegbiaaGreat.L
namespace Go.Proofs.YtnmnglcdoegbiaaGreat.L
open Go Go.V Go.RowKit Go.Proofs.YtnmnglcdoegbiaaGreat.Sp Go.Proofs.YtnmnglcdoegbiaaGreat.F
open Go.Proofs (Tryz.prog)
noncomputable section
theorem up_def (x y : Rat) : kg0.up x y = decide (hfn x y = 0) := of_eq_true (eq_true rfl)
theorem un_out {x y : Rat} (h : kg0.un x y = true) : x * x + y * y = 1 := of_decide_eq_true h
theorem un_in {x y : Rat} (h : x * x + y * y = 1) : kg0.un x y = true := decide_eq_true h
theorem eRKUpper : Entry Tryz.prog 69 (tKUpper sq0 kg0) := by
  refine entry_of (E := ⟨CKs sq0, Kall, noL⟩) (u := 10) (d := 10) CKs_ok loops_none mixed (by kernel_rfl) (fun args r h => ?_)
  unfold tKUpper k1 at h
  split at h
  · rename_i b n d c m e
    simp only [Option.some.injEq, Prod.mk.injEq, Bool.and_eq_true] at h
    obtain ⟨⟨⟨h1, h2⟩, h3⟩, rfl⟩ := h
    have hu := un_out h3
    have hcall := rkupper_tree sq0 b c n d m e
    rw [ok6_oks h1, ok6_oks h2] at hcall
    simp only [sqz] at hcall
    rw [up_def]
    clear h3
    generalize sq0.qv b n d = x at *
    generalize sq0.qv c m e = y at *
    unfold hfn
    rcases sgn_cases y with ⟨g1, g2⟩ | ⟨g1, g2⟩ | ⟨g1, g2⟩
    · rw [g2] at hcall; rw [hcall, if_pos g1]; rfl
    · rcases sgn_cases x with ⟨g3, g4⟩ | ⟨g3, g4⟩ | ⟨g3, g4⟩
      · rw [g2, g4] at hcall; rw [hcall, if_neg (by grind), if_pos g1, if_pos g3]; rfl
      · exfalso; rw [g1, g3] at hu; exact absurd hu (by decide +kernel)
      · rw [g2, g4] at hcall; rw [hcall, if_neg (by grind), if_pos g1, if_neg (by grind)]; rfl
    · rw [g2] at hcall; rw [hcall, if_neg (by grind), if_neg (by grind)]; rfl
  · cases h
theorem CKt_ok : Meets Tryz.prog (CKt sq0 kg0) := ((CKs_ok.add eRKBack).add eRKThen).add eRKUpper
theorem eRKComp : Entry Tryz.prog 68 (tRKComp sq0 kg0) := by
  refine entry_of (E := ⟨CKt sq0 kg0, Kall, noL⟩) (u := 10) (d := 10) CKt_ok loops_none mixed (by kernel_rfl) (fun args r h => ?_)
  unfold tRKComp k2 at h
  split at h
  · rename_i b n d c m e b2 n2 d2 c2 m2 e2
    simp only [Option.some.injEq, Prod.mk.injEq, Bool.and_eq_true] at h
    obtain ⟨⟨⟨⟨⟨⟨h1, h2⟩, h3⟩, h4⟩, h5⟩, h6⟩, rfl⟩ := h
    have hcall := rkcomp_tree sq0 kg0 b c b2 c2 n d m e n2 d2 m2 e2
    have z1 := ok6_sz (b := b) h1
    have z2 := ok6_sz (b := c) h2
    have z3 := ok6_sz (b := b2) h3
    have z4 := ok6_sz (b := c2) h4
    have z5 := ok6_rat (q := -sq0.qv c2 m2 e2) (by rw [szq_neg]; exact z4)
    have hc : ∀ x y u v, kg0.cm x y u v = cmn x y u v := fun x y u v => rfl
    rw [hc]
    unfold cmn
    rw [h1, h2, h3, h4, h5, h6, z5] at hcall
    simp only [qv_rat, sqz, up_def] at hcall
    clear h5 h6
    generalize sq0.qv b n d = x at *
    generalize sq0.qv c m e = y at *
    generalize sq0.qv b2 n2 d2 = u at *
    generalize sq0.qv c2 m2 e2 = v at *
    have s1 := szq_mul (-v) x
    have s2 := szq_mul u y
    have s3 := szq_add (-v * x) (u * y)
    have s4 := szq_neg v
    have a1 := oks_rat (q := -v * x + u * y) (by omega)
    rw [a1] at hcall
    rcases hf_cases' x y with a | a <;> rcases hf_cases' u v with b | b <;> rw [a, b] at hcall ⊢
    · rw [if_pos (show (0 : Int) - 0 = 0 by decide)]; exact hcall
    · rw [if_neg (show ¬ (0 : Int) - 1 = 0 by decide)]; exact hcall
    · rw [if_neg (show ¬ (1 : Int) - 0 = 0 by decide)]; exact hcall
    · rw [if_pos (show (1 : Int) - 1 = 0 by decide)]; exact hcall
  · cases h
theorem CRy_ok : Meets Tryz.prog (CRy sq0 kg0) := (CRx_ok.add eRKComp).add eRKUpper
theorem eRXCompare : Entry Tryz.prog 34 (xKCompare sq0 kg0) := by
  refine entry_of (E := ⟨CRy sq0 kg0, Kall, noL⟩) (u := 10) (d := 10) CRy_ok loops_none mixed (by kernel_rfl) (fun args r h => ?_)
  unfold xKCompare k2 at h
  split at h
  · rename_i b n d c m e b2 n2 d2 c2 m2 e2
    simp only [Option.some.injEq, Prod.mk.injEq, Bool.and_eq_true] at h
    obtain ⟨⟨⟨⟨h1, h2⟩, h3⟩, h4⟩, rfl⟩ := h
    have hcall := rxcompare_tree sq0 kg0 b c b2 c2 n d m e n2 d2 m2 e2
    rw [h1, h2, h3, h4] at hcall
    rw [hcall]
    by_cases k1 : kg0.kc b n d c m e = 0
    · by_cases k2 : kg0.kc b2 n2 d2 c2 m2 e2 = 0
      · rw [dT k1, dT k2, un_in (kc_zero k1).2.2, un_in (kc_zero k2).2.2, k1, k2]; rfl
      · rw [dT k1, dF k2, or2_n2 k2]; rfl
    · rw [dF k1, or2_n1 k1]; rfl
  · cases h
theorem eRVBetween : Entry Tryz.prog 36 (vBetween sq0 kg0) := by
  refine entry_of (E := ⟨CRy sq0 kg0, Kall, noL⟩) (u := 10) (d := 10) CRy_ok loops_none mixed (by kernel_rfl) (fun args r h => ?_)
  unfold vBetween vK3 k3 at h
  split at h
  · rename_i b n d c m e b2 n2 dd c2 m2 e2 b3 n3 dd3 c3 m3 e3
    simp only [Option.some.injEq, Prod.mk.injEq, Bool.and_eq_true, decide_eq_true_eq] at h
    obtain ⟨⟨⟨⟨⟨h1, h2⟩, g1⟩, ⟨h3, h4⟩, g2⟩, ⟨h5, h6⟩, g3⟩, rfl⟩ := h
    have hcall := rxbetween_tree sq0 kg0 b c b2 c2 b3 c3 n d m e n2 dd m2 e2 n3 dd3 m3 e3
    have z1 := ok5_sz (b := b) h1
    have z2 := ok5_sz (b := c) h2
    have z3 := ok5_sz (b := b2) h3
    have z4 := ok5_sz (b := c2) h4
    have z5 := ok5_sz (b := b3) h5
    have z6 := ok5_sz (b := c3) h6
    have u1 := (kc_zero g1).2.2
    have u2 := (kc_zero g2).2.2
    have u3 := (kc_zero g3).2.2
    rw [ok5_6 h1, ok5_6 h2, ok5_6 h3, ok5_6 h4, ok5_6 h5, ok5_6 h6, dT g1, dT g2, dT g3] at hcall
    simp only [qv_rat] at hcall
    clear g1 g2 g3
    generalize sq0.qv b n d = x at *
    generalize sq0.qv c m e = y at *
    generalize sq0.qv b2 n2 dd = p at *
    generalize sq0.qv c2 m2 e2 = q at *
    generalize sq0.qv b3 n3 dd3 = u at *
    generalize sq0.qv c3 m3 e3 = v at *
    have s1 := szq_d1 x y p q
    have s2 := szq_d2 x y p q
    have s3 := szq_d1 x y u v
    have s4 := szq_d2 x y u v
    have s5 := szq_neg y
    have w1 : kg0.un (x * p - -y * q) (-y * p + x * q) = true := un_in (unit_d u1 u2)
    have w2 : kg0.un (x * u - -y * v) (-y * u + x * v) = true := un_in (unit_d u1 u3)
    rw [w1, w2, ok6_rat (q := -y) (by omega), ok6_rat (q := x * p - -y * q) (by omega), ok6_rat (q := -y * p + x * q) (by omega), ok6_rat (q := x * u - -y * v) (by omega), ok6_rat (q := -y * u + x * v) (by omega)] at hcall
    exact hcall
  · cases h
theorem eRVCorner : Entry Tryz.prog 39 (vCorner sq0 kg0) := by
  refine entry_of (E := ⟨CRy sq0 kg0, Kall, noL⟩) (u := 10) (d := 10) CRy_ok loops_none mixed (by kernel_rfl) (fun args r h => ?_)
  unfold vCorner vKQ k3 at h
  split at h
  · rename_i b n d c m e b2 n2 dd c2 m2 e2 b3 n3 dd3 c3 m3 e3
    simp only [Option.some.injEq, Prod.mk.injEq, Bool.and_eq_true, decide_eq_true_eq] at h
    obtain ⟨⟨⟨⟨⟨h1, h2⟩, g1⟩, ⟨h3, h4⟩, g2⟩, ⟨h5, h6⟩⟩, rfl⟩ := h
    have hcall := rxcorner_tree sq0 kg0 b c b2 c2 b3 c3 n d m e n2 dd m2 e2 n3 dd3 m3 e3
    have z1 := ok5_sz (b := b) h1
    have z2 := ok5_sz (b := c) h2
    have z3 := ok5_sz (b := b2) h3
    have z4 := ok5_sz (b := c2) h4
    have z5 := ok5_sz (b := b3) h5
    have z6 := ok5_sz (b := c3) h6
    have u1 := (kc_zero g1).2.2
    have u2 := (kc_zero g2).2.2
    rw [ok5_6 h1, ok5_6 h2, ok5_6 h3, ok5_6 h4, ok5_6 h5, ok5_6 h6, dT g1, dT g2] at hcall
    simp only [qv_rat, fr_11, up_def] at hcall
    clear g1 g2
    rw [ck00]
    generalize sq0.qv b n d = x at *
    generalize sq0.qv c m e = y at *
    generalize sq0.qv b2 n2 dd = u at *
    generalize sq0.qv c2 m2 e2 = v at *
    generalize sq0.qv b3 n3 dd3 = p at *
    generalize sq0.qv c3 m3 e3 = q at *
    have s1 := szq_d1 x y u v
    have s2 := szq_d2 x y u v
    have s3 := szq_t1 x y p q
    have s4 := szq_t2 x y p q
    have s5 := szq_neg y
    have s6 := szq_t1 u v p q
    have s7 := szq_t2 u v p q
    have s8 := szq_one
    have s9 := szq_add 1 (x * u - -y * v)
    have s10 := szq_add (x * p - y * q) (u * p - v * q)
    have s11 := szq_add (y * p + x * q) (v * p + u * q)
    have w1 : kg0.un (x * u - -y * v) (-y * u + x * v) = true := un_in (unit_d u1 u2)
    rw [w1, ok6_rat (q := -y) (by omega), ok6_rat (q := x * u - -y * v) (by omega), ok6_rat (q := -y * u + x * v) (by omega)] at hcall
    by_cases hh : hfn (d1 x y u v) (d2 x y u v) = 1
    · rw [if_pos hh, sel_2, sel_2, pair_zero]
      rw [dF (show ¬ hfn (x * u - -y * v) (-y * u + x * v) = 0 from fun g => by rw [show hfn (x * u - -y * v) (-y * u + x * v) = 1 from hh] at g; exact absurd g (by decide))] at hcall
      exact hcall
    · rw [if_neg hh, sel_0, sel_0]
      have h0 : hfn (x * u - -y * v) (-y * u + x * v) = 0 := (hf_cases _ _).resolve_right hh
      rw [dT h0, oks_rat (q := 1) (by omega), oks_rat (q := x * u - -y * v) (by omega), oks_rat (q := x * p - y * q) (by omega), oks_rat (q := u * p - v * q) (by omega), oks_rat (q := y * p + x * q) (by omega), oks_rat (q := v * p + u * q) (by omega), oks_rat (q := 1 + (x * u - -y * v)) (by omega), oks_rat (q := x * p - y * q + (u * p - v * q)) (by omega), oks_rat (q := y * p + x * q + (v * p + u * q)) (by omega)] at hcall
      exact hcall
  · cases h
end
end Go.Proofs.YtnmnglcdoegbiaaGreat.L
namespace Go.Proofs.YtnmnglcdoegbiaaGreat.L
open Go Go.V Go.RowKit Go.Proofs.YtnmnglcdoegbiaaGreat.Sp Go.Proofs.YtnmnglcdoegbiaaGreat.F
open Go.Proofs (Tryz.prog)
noncomputable section
theorem rat_eq_zero (z : Rat) : (sq0.qn z == false && (strEq (sq0.qs z) (ByteArray.mk #[]) && (strEq (sq0.qd z) (ByteArray.mk #[]) && true))) = decide (z = 0) := by
  have := rat_eq_iff z 0
  rwa [rat0.1, rat0.2.1, rat0.2.2] at this
theorem eRVOf : Entry Tryz.prog 29 (vOf sq0 kg0) := entry_less eRKOf fun args r h => by
  unfold vOf k0 at h
  split at h
  · exact h
  · cases h
theorem CRmid_ok : Meets Tryz.prog (CRmid sq0 kg0) := CRy_ok.add eRVOf
theorem eRVMiddle : Entry Tryz.prog 37 (vMiddle sq0 kg0) := by
  refine entry_of (E := ⟨CRmid sq0 kg0, Kall, noL⟩) (u := 10) (d := 10) CRmid_ok loops_none mixed (by kernel_rfl) (fun args r h => ?_)
  unfold vMiddle vM2 k2 at h
  split at h
  · rename_i b n d c m e b2 n2 dd c2 m2 e2
    simp only [Option.some.injEq, Prod.mk.injEq, Bool.and_eq_true, decide_eq_true_eq] at h
    obtain ⟨⟨⟨⟨h1, h2⟩, g1⟩, ⟨h3, h4⟩, g2⟩, rfl⟩ := h
    have hcall := rxmiddle_tree sq0 kg0 b c b2 c2 n d m e n2 dd m2 e2
    have z1 := ok5_sz (b := b) h1
    have z2 := ok5_sz (b := c) h2
    have z3 := ok5_sz (b := b2) h3
    have z4 := ok5_sz (b := c2) h4
    rw [ok5_6 h1, ok5_6 h2, ok5_6 h3, ok5_6 h4, dT g1, dT g2] at hcall
    obtain ⟨x, y, u1, rfl, rfl, rfl, rfl, rfl, rfl⟩ := kc_canon g1
    obtain ⟨u, v, u2, rfl, rfl, rfl, rfl, rfl, rfl⟩ := kc_canon g2
    clear g1 g2 h1 h2 h3 h4
    simp only [qv_rat, qv_nil, fr_11, fr_31, rat_eq_iff, rat_eq_zero, up_def] at hcall
    simp only [qv_rat] at z1 z2 z3 z4 ⊢
    rw [mk00]
    have uD := unit_d u1 u2
    have s1 := szq_d1 x y u v
    have s2 := szq_d2 x y u v
    have s5 := szq_neg y
    have s8 := szq_one
    have b1 : d1 x y u v = x * u - -y * v := rfl
    have b2 : d2 x y u v = -y * u + x * v := rfl
    rw [← b1, ← b2] at hcall
    rw [← b1] at s1
    rw [← b2] at s2
    rw [ok6_rat (q := -y) (by omega)] at hcall
    by_cases hn : x = u ∧ y = v
    · rw [if_pos hn, sel_12, sel_12, pair_zero]
      have e1 : d1 x y u v = 1 := (d_one u1 u2).2 hn
      have e2 : d2 x y u v = 0 := y_of_one uD e1
      rw [dT e1, dT e2] at hcall
      exact hcall
    · rw [if_neg hn, sel_0, sel_0]
      have nD : d1 x y u v ≠ 1 := fun h => hn ((d_one u1 u2).1 h)
      have hm1 : kg0.m1 x y u v = m1n x y u v := rfl
      have hm2 : kg0.m2 x y u v = m2n x y u v := rfl
      rw [hm1, hm2]
      unfold m1n m2n
      rw [dF nD, un_in uD, ok6_rat (q := d1 x y u v) (by omega), ok6_rat (q := d2 x y u v) (by omega)] at hcall
      by_cases hh : hfn (d1 x y u v) (d2 x y u v) = 1
      · rw [if_pos hh, if_pos hh]
        rw [dF (show ¬ hfn (d1 x y u v) (d2 x y u v) = 0 by omega), ok6_rat (q := 1) (by omega), show x * 0 - y * 1 = -y by grind, show y * 0 + x * 1 = x by grind] at hcall
        exact hcall
      · rw [if_neg hh, if_neg hh]
        have hy := hf_pos uD nD hh
        obtain ⟨_, nT, tp, _⟩ := tan_ct uD hy
        have hth : d2 x y u v / (1 + d1 x y u v) = tanh (d1 x y u v) (d2 x y u v) := rfl
        have hsp : ∀ x y, sq0.sp x y = simp2 x y := fun x y => rfl
        have ho1 : ∀ t, kg0.o1 t = of1 t := fun t => rfl
        have ho2 : ∀ t, kg0.o2 t = of2 t := fun t => rfl
        have s3 := szq_add 1 (d1 x y u v)
        rw [dT ((hf_cases (d1 x y u v) (d2 x y u v)).resolve_right hh), oks_rat (q := 1) (by omega), oks_rat (q := d1 x y u v) (by omega), oks_rat (q := d2 x y u v) (by omega), oks_rat (q := 1 + d1 x y u v) (by omega)] at hcall
        simp only [hth, hsp, ho1, ho2] at hcall
        have s9 := szq_tanh (d1 x y u v) (d2 x y u v)
        unfold mdl
        generalize tanh (d1 x y u v) (d2 x y u v) = t at *
        have s10 := szq_three
        have s11 := szq_div t 3
        have s12 := szq_add (t / 3) (t / 3)
        obtain ⟨_, _, s13⟩ := simp2_in (x := t / 3) (y := t / 3 + t / 3) (by grind) (by grind)
        obtain ⟨s14, s15⟩ := szq_of (simp2 (t / 3) (t / 3 + t / 3))
        rw [oks_rat (q := t) (by omega), oks_rat (q := 3) (by omega), oks_rat (q := t / 3) (by omega), ok6_rat (q := t / 3) (by omega), ok6_rat (q := t / 3 + t / 3) (by omega), ok6_rat (q := simp2 (t / 3) (t / 3 + t / 3)) (by omega), ok6_rat (q := of1 (simp2 (t / 3) (t / 3 + t / 3))) (by omega), ok6_rat (q := of2 (simp2 (t / 3) (t / 3 + t / 3))) (by omega)] at hcall
        exact hcall
  · cases h
theorem eRMidBad : Entry Tryz.prog 37 (xBad2 kg0 (sq0.pair 0 0)) := by
  refine entry_of (E := ⟨CRmid sq0 kg0, Kall, noL⟩) (u := 10) (d := 10) CRmid_ok loops_none mixed (by kernel_rfl) (fun args r h => ?_)
  unfold xBad2 k2 at h
  split at h
  · rename_i b n d c m e b2 n2 d2 c2 m2 e2
    rw [Option.some.injEq, Prod.mk.injEq, Bool.and_eq_true, Bool.and_eq_true, Bool.and_eq_true, Bool.and_eq_true] at h
    obtain ⟨⟨⟨⟨⟨o1, o2⟩, o3⟩, o4⟩, k⟩, rfl⟩ := h
    have hcall := rxmiddle_tree sq0 kg0 b c b2 c2 n d m e n2 d2 m2 e2
    rw [ok5_6 o1, ok5_6 o2, ok5_6 o3, ok5_6 o4] at hcall
    rw [hcall, pair_zero]
    have k := bad_2 k
    by_cases a : kg0.kc b n d c m e = 0
    · rw [dT a, dF (fun g => k ⟨a, g⟩)]; rfl
    · rw [dF a]; rfl
  · cases h
theorem eRCorBad : Entry Tryz.prog 39 (xBadC kg0 (sq0.pair 0 0)) := by
  refine entry_of (E := ⟨CRy sq0 kg0, Kall, noL⟩) (u := 10) (d := 10) CRy_ok loops_none mixed (by kernel_rfl) (fun args r h => ?_)
  unfold xBadC k3 at h
  split at h
  · rename_i b n d c m e b2 n2 d2 c2 m2 e2 b3 n3 d3 c3 m3 e3
    rw [Option.some.injEq, Prod.mk.injEq, Bool.and_eq_true, Bool.and_eq_true, Bool.and_eq_true, Bool.and_eq_true] at h
    obtain ⟨⟨⟨⟨⟨o1, o2⟩, o3⟩, o4⟩, k⟩, rfl⟩ := h
    have hcall := rxcorner_tree sq0 kg0 b c b2 c2 b3 c3 n d m e n2 d2 m2 e2 n3 d3 m3 e3
    rw [ok5_6 o1, ok5_6 o2, ok5_6 o3, ok5_6 o4] at hcall
    rw [hcall, pair_zero]
    have k := bad_2 k
    by_cases a : kg0.kc b n d c m e = 0
    · rw [dT a, dF (fun g => k ⟨a, g⟩)]; rfl
    · rw [dF a]; rfl
  · cases h
theorem eRBetBad : Entry Tryz.prog 36 (xBad3 kg0 (.val (.bool false))) := by
  refine entry_of (E := ⟨CRy sq0 kg0, Kall, noL⟩) (u := 10) (d := 10) CRy_ok loops_none mixed (by kernel_rfl) (fun args r h => ?_)
  unfold xBad3 k3 at h
  split at h
  · rename_i b n d c m e b2 n2 d2 c2 m2 e2 b3 n3 d3 c3 m3 e3
    rw [Option.some.injEq, Prod.mk.injEq, Bool.and_eq_true, Bool.and_eq_true, Bool.and_eq_true, Bool.and_eq_true, Bool.and_eq_true, Bool.and_eq_true] at h
    obtain ⟨⟨⟨⟨⟨⟨⟨o1, o2⟩, o3⟩, o4⟩, o5⟩, o6⟩, k⟩, rfl⟩ := h
    have hcall := rxbetween_tree sq0 kg0 b c b2 c2 b3 c3 n d m e n2 d2 m2 e2 n3 d3 m3 e3
    rw [ok5_6 o1, ok5_6 o2, ok5_6 o3, ok5_6 o4, ok5_6 o5, ok5_6 o6] at hcall
    rw [hcall]
    have k := bad_3 k
    by_cases a : kg0.kc b n d c m e = 0
    · by_cases a2 : kg0.kc b2 n2 d2 c2 m2 e2 = 0
      · rw [dT a, dT a2, dF (fun g => k ⟨a, a2, g⟩)]; rfl
      · rw [dT a, dF a2]; rfl
    · rw [dF a]; rfl
  · cases h
end
end Go.Proofs.YtnmnglcdoegbiaaGreat.L
namespace Go.Proofs.YtnmnglcdoegbiaaGreat.L
open Go Go.V Go.RowKit Go.Proofs.YtnmnglcdoegbiaaGreat.Sp
open Go.Proofs (Tryz.prog)
noncomputable section
def COr (Z : Qg) (K : Kg) : FuncId → TF := addC 33 (xKCompare Z K) (addC 34 (xKCompare Z K) (addC 35 (fBetween Z K) (addC 36 (fBetween Z K) (addC 31 (fMiddle Z K) (addC 37 (fMiddle Z K) (addC 38 (fCorner Z K) (addC 39 (fCorner Z K) (addC 11 tAwakeR noC))))))))
theorem orders_tree (Z : Qg) (K : Kg) (b c b2 c2 b3 c3 b4 c4 : Bool) (n d m e n2 d2 m2 e2 n3 d3 m3 e3 n4 d4 m4 e4 : BA) : letI q_7 := (K.kc b3 n3 d3 c3 m3 e3); letI q_1 := (K.mk1 (K.kc b n d c m e) q_7 (Z.qv b n d) (Z.qv c m e) (Z.qv b3 n3 d3) (Z.qv c3 m3 e3)); letI q_2 := (K.ck (K.kc b n d c m e) q_7 (Z.qv b n d) (Z.qv c m e) (Z.qv b3 n3 d3) (Z.qv c3 m3 e3)); letI q_3 := (K.sel q_2 (K.c1 (Z.qv b n d) (Z.qv c m e) (Z.qv b3 n3 d3) (Z.qv c3 m3 e3) (Z.qv b4 n4 d4) (Z.qv c4 m4 e4))); letI q_4 := (K.sel q_2 (K.c2 (Z.qv b n d) (Z.qv c m e) (Z.qv b3 n3 d3) (Z.qv c3 m3 e3) (Z.qv b4 n4 d4) (Z.qv c4 m4 e4))); letI q_5 := (K.sel q_1 (K.m1 (Z.qv b n d) (Z.qv c m e) (Z.qv b3 n3 d3) (Z.qv c3 m3 e3))); letI q_6 := (K.sel q_1 (K.m2 (Z.qv b n d) (Z.qv c m e) (Z.qv b3 n3 d3) (Z.qv c3 m3 e3))); letI q_8 := (K.bt (Z.qv b n d) (Z.qv c m e) (Z.qv b2 n2 d2) (Z.qv c2 m2 e2) (Z.qv b3 n3 d3) (Z.qv c3 m3 e3)); letI q_9 := (K.or3 (K.kc b n d c m e) (K.kc b2 n2 d2 c2 m2 e2) q_7);
    (callA Tryz.prog ⟨COr Z K, Kall, noL⟩ 10 10 7 [av6 b n d c m e, av6 b2 n2 d2 c2 m2 e2, av6 b3 n3 d3 c3 m3 e3, av6 b4 n4 d4 c4 m4 e4] = (bif decide ((40 : Int) < (↑(ByteArray.size n) : Int)) then some (.val (.bool true)) else (bif decide ((40 : Int) < (↑(ByteArray.size d) : Int)) then some (.val (.bool true)) else (bif decide ((40 : Int) < (↑(ByteArray.size m) : Int)) then some (.val (.bool true)) else (bif decide ((40 : Int) < (↑(ByteArray.size e) : Int)) then some (.val (.bool true)) else (bif decide ((40 : Int) < (↑(ByteArray.size n2) : Int)) then some (.val (.bool true)) else (bif decide ((40 : Int) < (↑(ByteArray.size d2) : Int)) then some (.val (.bool true)) else (bif decide ((40 : Int) < (↑(ByteArray.size m2) : Int)) then some (.val (.bool true)) else (bif decide ((40 : Int) < (↑(ByteArray.size e2) : Int)) then some (.val (.bool true)) else (bif decide ((40 : Int) < (↑(ByteArray.size n3) : Int)) then some (.val (.bool true)) else (bif decide ((40 : Int) < (↑(ByteArray.size d3) : Int)) then some (.val (.bool true)) else (bif decide ((40 : Int) < (↑(ByteArray.size m3) : Int)) then some (.val (.bool true)) else (bif decide ((40 : Int) < (↑(ByteArray.size e3) : Int)) then some (.val (.bool true)) else (bif decide ((40 : Int) < (↑(ByteArray.size n4) : Int)) then some (.val (.bool true)) else (bif decide ((40 : Int) < (↑(ByteArray.size d4) : Int)) then some (.val (.bool true)) else (bif decide ((40 : Int) < (↑(ByteArray.size m4) : Int)) then some (.val (.bool true)) else (bif decide ((40 : Int) < (↑(ByteArray.size e4) : Int)) then some (.val (.bool true)) else (bif ok6 n d && ok6 m e && ok6 n3 d3 && ok6 m3 e3 then (bif ok6 n d && ok6 m e && ok6 n3 d3 && ok6 m3 e3 then (bif ok5 n d && ok5 m e && ok5 n2 d2 && ok5 m2 e2 && ok5 n3 d3 && ok5 m3 e3 then (bif ok5 n d && ok5 m e && ok5 n2 d2 && ok5 m2 e2 && ok5 n3 d3 && ok5 m3 e3 then (bif ok5 n d && ok5 m e && ok5 n3 d3 && ok5 m3 e3 then (bif ok5 n d && ok5 m e && ok5 n3 d3 && ok5 m3 e3 then (bif ok5 n d && ok5 m e && ok5 n3 d3 && ok5 m3 e3 && ok5 n4 d4 && ok5 m4 e4 then (bif ok5 n d && ok5 m e && ok5 n3 d3 && ok5 m3 e3 && ok5 n4 d4 && ok5 m4 e4 then (bif decide (K.sei (K.or2 (K.kc b n d c m e) q_7) (K.cm (Z.qv b n d) (Z.qv c m e) (Z.qv b3 n3 d3) (Z.qv c3 m3 e3)) = K.sei (K.or2 (K.kc b n d c m e) q_7) (K.cm (Z.qv b n d) (Z.qv c m e) (Z.qv b3 n3 d3) (Z.qv c3 m3 e3))) then (bif decide (K.or2 (K.kc b n d c m e) q_7 = K.or2 (K.kc b n d c m e) q_7) then (bif bif false then !K.seb q_9 q_8 == K.seb q_9 q_8 else K.seb q_9 q_8 == K.seb q_9 q_8 then (bif decide (K.or3 (K.kc b n d c m e) (K.kc b2 n2 d2 c2 m2 e2) q_7 = K.or3 (K.kc b n d c m e) (K.kc b2 n2 d2 c2 m2 e2) q_7) then (bif bif false then !(Z.qn q_5 == Z.qn q_5 && (strEq (Z.qs q_5) (Z.qs q_5) && (strEq (Z.qd q_5) (Z.qd q_5) && true)) && (Z.qn q_6 == Z.qn q_6 && (strEq (Z.qs q_6) (Z.qs q_6) && (strEq (Z.qd q_6) (Z.qd q_6) && true)) && true)) else Z.qn q_5 == Z.qn q_5 && (strEq (Z.qs q_5) (Z.qs q_5) && (strEq (Z.qd q_5) (Z.qd q_5) && true)) && (Z.qn q_6 == Z.qn q_6 && (strEq (Z.qs q_6) (Z.qs q_6) && (strEq (Z.qd q_6) (Z.qd q_6) && true)) && true) then (bif decide (K.mk1 (K.kc b n d c m e) q_7 (Z.qv b n d) (Z.qv c m e) (Z.qv b3 n3 d3) (Z.qv c3 m3 e3) = K.mk1 (K.kc b n d c m e) q_7 (Z.qv b n d) (Z.qv c m e) (Z.qv b3 n3 d3) (Z.qv c3 m3 e3)) then (bif bif false then !(Z.qn q_3 == Z.qn q_3 && (strEq (Z.qs q_3) (Z.qs q_3) && (strEq (Z.qd q_3) (Z.qd q_3) && true)) && (Z.qn q_4 == Z.qn q_4 && (strEq (Z.qs q_4) (Z.qs q_4) && (strEq (Z.qd q_4) (Z.qd q_4) && true)) && true)) else Z.qn q_3 == Z.qn q_3 && (strEq (Z.qs q_3) (Z.qs q_3) && (strEq (Z.qd q_3) (Z.qd q_3) && true)) && (Z.qn q_4 == Z.qn q_4 && (strEq (Z.qs q_4) (Z.qs q_4) && (strEq (Z.qd q_4) (Z.qd q_4) && true)) && true) then (bif decide (K.ck (K.kc b n d c m e) q_7 (Z.qv b n d) (Z.qv c m e) (Z.qv b3 n3 d3) (Z.qv c3 m3 e3) = K.ck (K.kc b n d c m e) q_7 (Z.qv b n d) (Z.qv c m e) (Z.qv b3 n3 d3) (Z.qv c3 m3 e3)) then some (.val (.bool true)) else some (.val (.bool false))) else some (.val (.bool false))) else some (.val (.bool false))) else some (.val (.bool false))) else some (.val (.bool false))) else some (.val (.bool false))) else some (.val (.bool false))) else some (.val (.bool false))) else none) else none) else none) else none) else none) else none) else none) else none)))))))))))))))))) := by kernel_rfl
end
end Go.Proofs.YtnmnglcdoegbiaaGreat.L
namespace Go.Proofs.YtnmnglcdoegbiaaGreat.L
open Go Go.V Go.RowKit Go.Proofs.YtnmnglcdoegbiaaGreat.Sp Go.Proofs.YtnmnglcdoegbiaaGreat.F
open Go.Proofs (Tryz.prog)
noncomputable section
theorem eAwakeO : Entry Tryz.prog 11 tAwakeR := eAwakeK
theorem COr_ok : Meets Tryz.prog (COr sq0 kg0) := (((((((((meets_none _).add eAwakeO).add (fCorner_of eRVCorner eRCorBad)).add (fCorner_of eVCorner eCorBad)).add (fMiddle_of eRVMiddle eRMidBad)).add (fMiddle_of eVMiddle eMidBad)).add (fBetween_of eRVBetween eRBetBad)).add (fBetween_of eVBetween eBetBad)).add eRXCompare).add eXCompare
theorem ok56 {n d : BA} (h1 : ¬ (40 : Int) < n.size) (h2 : ¬ (40 : Int) < d.size) : ok5 n d = true := by
  unfold ok5
  rw [decide_eq_true (show n.size ≤ 10000 by omega), decide_eq_true (show d.size ≤ 10000 by omega)]; rfl
theorem orders_true (b c b2 c2 b3 c3 b4 c4 : Bool) (n d m e n2 d2 m2 e2 n3 d3 m3 e3 n4 d4 m4 e4 : BA) : callA Tryz.prog ⟨COr sq0 kg0, Kall, noL⟩ 10 10 7 [av6 b n d c m e, av6 b2 n2 d2 c2 m2 e2, av6 b3 n3 d3 c3 m3 e3, av6 b4 n4 d4 c4 m4 e4] = some (.val (.bool true)) := by
  rw [orders_tree]
  by_cases an : (40 : Int) < n.size
  · rw [dT an]; rfl
  by_cases ad : (40 : Int) < d.size
  · rw [dF an, dT ad]; rfl
  by_cases am : (40 : Int) < m.size
  · rw [dF an, dF ad, dT am]; rfl
  by_cases ae : (40 : Int) < e.size
  · rw [dF an, dF ad, dF am, dT ae]; rfl
  by_cases an2 : (40 : Int) < n2.size
  · rw [dF an, dF ad, dF am, dF ae, dT an2]; rfl
  by_cases ad2 : (40 : Int) < d2.size
  · rw [dF an, dF ad, dF am, dF ae, dF an2, dT ad2]; rfl
  by_cases am2 : (40 : Int) < m2.size
  · rw [dF an, dF ad, dF am, dF ae, dF an2, dF ad2, dT am2]; rfl
  by_cases ae2 : (40 : Int) < e2.size
  · rw [dF an, dF ad, dF am, dF ae, dF an2, dF ad2, dF am2, dT ae2]; rfl
  by_cases an3 : (40 : Int) < n3.size
  · rw [dF an, dF ad, dF am, dF ae, dF an2, dF ad2, dF am2, dF ae2, dT an3]; rfl
  by_cases ad3 : (40 : Int) < d3.size
  · rw [dF an, dF ad, dF am, dF ae, dF an2, dF ad2, dF am2, dF ae2, dF an3, dT ad3]; rfl
  by_cases am3 : (40 : Int) < m3.size
  · rw [dF an, dF ad, dF am, dF ae, dF an2, dF ad2, dF am2, dF ae2, dF an3, dF ad3, dT am3]; rfl
  by_cases ae3 : (40 : Int) < e3.size
  · rw [dF an, dF ad, dF am, dF ae, dF an2, dF ad2, dF am2, dF ae2, dF an3, dF ad3, dF am3, dT ae3]; rfl
  by_cases an4 : (40 : Int) < n4.size
  · rw [dF an, dF ad, dF am, dF ae, dF an2, dF ad2, dF am2, dF ae2, dF an3, dF ad3, dF am3, dF ae3, dT an4]; rfl
  by_cases ad4 : (40 : Int) < d4.size
  · rw [dF an, dF ad, dF am, dF ae, dF an2, dF ad2, dF am2, dF ae2, dF an3, dF ad3, dF am3, dF ae3, dF an4, dT ad4]; rfl
  by_cases am4 : (40 : Int) < m4.size
  · rw [dF an, dF ad, dF am, dF ae, dF an2, dF ad2, dF am2, dF ae2, dF an3, dF ad3, dF am3, dF ae3, dF an4, dF ad4, dT am4]; rfl
  by_cases ae4 : (40 : Int) < e4.size
  · rw [dF an, dF ad, dF am, dF ae, dF an2, dF ad2, dF am2, dF ae2, dF an3, dF ad3, dF am3, dF ae3, dF an4, dF ad4, dF am4, dT ae4]; rfl
  rw [dF an, dF ad, dF am, dF ae, dF an2, dF ad2, dF am2, dF ae2, dF an3, dF ad3, dF am3, dF ae3, dF an4, dF ad4, dF am4, dF ae4, ok40 an ad, ok56 an ad, ok40 am ae, ok56 am ae, ok56 an2 ad2, ok56 am2 ae2, ok40 an3 ad3, ok56 an3 ad3, ok40 am3 ae3, ok56 am3 ae3, ok56 an4 ad4, ok56 am4 ae4]
  simp only [beq_self_eq_true, strEq_self, eq_self, decide_true]
  rfl
theorem orders_walk (b : Bool) (n d : BA) (c : Bool) (m e : BA) (b2 : Bool) (n2 d2 : BA) (c2 : Bool) (m2 e2 : BA) (b3 : Bool) (n3 d3 : BA) (c3 : Bool) (m3 e3 : BA) (b4 : Bool) (n4 d4 : BA) (c4 : Bool) (m4 e4 : BA) (W : World) : Calls Tryz.prog 7 #[.agg #[.bool b, .string n, .string d, .bool c, .string m, .string e], .agg #[.bool b2, .string n2, .string d2, .bool c2, .string m2, .string e2], .agg #[.bool b3, .string n3, .string d3, .bool c3, .string m3, .string e3], .agg #[.bool b4, .string n4, .string d4, .bool c4, .string m4, .string e4]] W fun e w' => e = .returned (.bool true) ∧ Below W.heap.size W w' :=
  law_walk COr_ok loops_none (by kernel_rfl) (orders_true b c b2 c2 b3 c3 b4 c4 n d m e n2 d2 m2 e2 n3 d3 m3 e3 n4 d4 m4 e4) W ⟨_, _, rfl, arg_pair _ _ b n d c m e, _, _, rfl, arg_pair _ _ b2 n2 d2 c2 m2 e2, _, _, rfl, arg_pair _ _ b3 n3 d3 c3 m3 e3, _, _, rfl, arg_pair _ _ b4 n4 d4 c4 m4 e4, rfl⟩
end
end Go.Proofs.YtnmnglcdoegbiaaGreat.L
