import Derived.Test.YtnmnglcdoegbiaaGreatZKB
set_option linter.unusedVariables false
set_option linter.unusedSimpArgs false
set_option linter.unusedVariables false
namespace Go.Proofs.YtnmnglcdoegbiaaGreat.L
open Go Go.V Go.RowKit Go.Proofs.YtnmnglcdoegbiaaGreat.Sp
open Go.Proofs (Tryz.prog)
noncomputable section
def CGr (Z : Qg) (K : Kg) : FuncId → TF := addC 21 (vThen Z K) (addC 12 (vBack Z K) (addC 14 (xKNone Z) (addC 15 (tKCheck K) (addC 27 (tKCheck K) (addC 11 tAwakeK noC)))))
def CIm (Z : Qg) (K : Kg) : FuncId → TF := addC 48 (tQMul Z) (addC 50 (tQAdd Z) (addC 51 (tQSub Z) (addC 17 (vApply Z K) (CGr Z K))))
end
end Go.Proofs.YtnmnglcdoegbiaaGreat.L
set_option linter.unusedVariables false
set_option linter.unusedSimpArgs false
namespace Go.Proofs.YtnmnglcdoegbiaaGreat.L
open Go Go.V Go.RowKit Go.Proofs.YtnmnglcdoegbiaaGreat.Sp Go.Proofs.YtnmnglcdoegbiaaGreat.F
open Go.Proofs (Tryz.prog)
noncomputable section
theorem CGr_ok : Meets Tryz.prog (CGr sq0 kg0) := ((((((meets_none _).add eAwakeK).add eRKCheck).add eKCheck).add eXNone).add eVBack).add eVThen
theorem ok40 {n d : BA} (h1 : ¬ (40 : Int) < n.size) (h2 : ¬ (40 : Int) < d.size) : ok6 n d = true := by
  unfold ok6
  rw [decide_eq_true (show n.size ≤ 1000000 by omega), decide_eq_true (show d.size ≤ 1000000 by omega)]; rfl
theorem sz40 (q : Rat) (h1 : ¬ (40 : Int) < (sq0.qs q).size) (h2 : ¬ (40 : Int) < (sq0.qd q).size) : szq q ≤ 40 := by
  have := szq_val (sq0.qn q) (sq0.qs q) (sq0.qd q)
  rw [qv_rat] at this
  omega
theorem arg_pair (B : Nat → Prop) (w : World) (b : Bool) (n d : BA) (c : Bool) (m e : BA) : (AV.agg [.val (.bool b), .val (.string n), .val (.string d), .val (.bool c), .val (.string m), .val (.string e)]).Rel Tryz.prog NoA B w NoD (.agg #[.bool b, .string n, .string d, .bool c, .string m, .string e]) := ⟨_, rfl, _, _, rfl, rfl, _, _, rfl, rfl, _, _, rfl, rfl, _, _, rfl, rfl, _, _, rfl, rfl, _, _, rfl, rfl, rfl⟩
end
end Go.Proofs.YtnmnglcdoegbiaaGreat.L
set_option linter.unusedVariables false
set_option linter.unusedSimpArgs false
namespace Go.Proofs.YtnmnglcdoegbiaaGreat.L
open Go Go.V Go.RowKit Go.Proofs.YtnmnglcdoegbiaaGreat.Sp Go.Proofs.YtnmnglcdoegbiaaGreat.F
open Go.Proofs (Tryz.prog)
noncomputable section
theorem CIm_ok : Meets Tryz.prog (CIm sq0 kg0) := (((CGr_ok.add eVApply).add eQSub).add eQAdd).add eQMul
end
end Go.Proofs.YtnmnglcdoegbiaaGreat.L
set_option linter.unusedVariables false
namespace Go.Proofs.YtnmnglcdoegbiaaGreat.L
open Go Go.V Go.RowKit Go.Proofs.YtnmnglcdoegbiaaGreat.Sp
open Go.Proofs (Tryz.prog)
noncomputable section
def CCr (Z : Qg) (K : Kg) : FuncId → TF := addC 40 (tQSign Z) (addC 38 (vCorner Z K) (addC 35 (vBetween Z K) (CIm Z K)))
def cor_tail (Z : Qg) (K : Kg) (b c b2 c2 b3 c3 b4 c4 : Bool) (n d m e n2 d2 m2 e2 n3 d3 m3 e3 n4 d4 m4 e4 : BA) : Option AV := letI q_1 := (K.sel (K.ck (0 : Int) (0 : Int) (Z.qv b n d) (Z.qv c m e) (Z.qv b3 n3 d3) (Z.qv c3 m3 e3)) (K.c1 (Z.qv b n d) (Z.qv c m e) (Z.qv b3 n3 d3) (Z.qv c3 m3 e3) (Z.qv b4 n4 d4) (Z.qv c4 m4 e4))); letI q_2 := (K.sel (K.ck (0 : Int) (0 : Int) (Z.qv b n d) (Z.qv c m e) (Z.qv b3 n3 d3) (Z.qv c3 m3 e3)) (K.c2 (Z.qv b n d) (Z.qv c m e) (Z.qv b3 n3 d3) (Z.qv c3 m3 e3) (Z.qv b4 n4 d4) (Z.qv c4 m4 e4))); letI q_10 := (Z.qv b n d * Z.qv b4 n4 d4 - Z.qv c m e * Z.qv c4 m4 e4); letI q_8 := (Z.qv b3 n3 d3 * Z.qv b4 n4 d4 - Z.qv c3 m3 e3 * Z.qv c4 m4 e4); letI q_30 := (Z.qv (Z.qn q_10) (Z.qs q_10) (Z.qd q_10) - Z.qv (Z.qn q_8) (Z.qs q_8) (Z.qd q_8)); letI q_13 := (Z.qv c2 m2 e2 * Z.qv b4 n4 d4 + Z.qv b2 n2 d2 * Z.qv c4 m4 e4); letI q_9 := (Z.qv c3 m3 e3 * Z.qv b4 n4 d4 + Z.qv b3 n3 d3 * Z.qv c4 m4 e4); letI q_31 := (Z.qv (Z.qn q_13) (Z.qs q_13) (Z.qd q_13) - Z.qv (Z.qn q_9) (Z.qs q_9) (Z.qd q_9)); letI q_16 := (Z.qv (Z.qn q_30) (Z.qs q_30) (Z.qd q_30) * Z.qv (Z.qn q_31) (Z.qs q_31) (Z.qd q_31)); letI q_11 := (Z.qv c m e * Z.qv b4 n4 d4 + Z.qv b n d * Z.qv c4 m4 e4); letI q_32 := (Z.qv (Z.qn q_11) (Z.qs q_11) (Z.qd q_11) - Z.qv (Z.qn q_9) (Z.qs q_9) (Z.qd q_9)); letI q_12 := (Z.qv b2 n2 d2 * Z.qv b4 n4 d4 - Z.qv c2 m2 e2 * Z.qv c4 m4 e4); letI q_33 := (Z.qv (Z.qn q_12) (Z.qs q_12) (Z.qd q_12) - Z.qv (Z.qn q_8) (Z.qs q_8) (Z.qd q_8)); letI q_17 := (Z.qv (Z.qn q_32) (Z.qs q_32) (Z.qd q_32) * Z.qv (Z.qn q_33) (Z.qs q_33) (Z.qd q_33)); letI q_3 := (Z.qv (Z.qn q_16) (Z.qs q_16) (Z.qd q_16) - Z.qv (Z.qn q_17) (Z.qs q_17) (Z.qd q_17)); letI q_14 := (Z.qv (Z.qn q_1) (Z.qs q_1) (Z.qd q_1) - Z.qv (Z.qn q_10) (Z.qs q_10) (Z.qd q_10)); letI q_20 := (Z.qv (Z.qn q_13) (Z.qs q_13) (Z.qd q_13) - Z.qv (Z.qn q_11) (Z.qs q_11) (Z.qd q_11)); letI q_26 := (Z.qv (Z.qn q_14) (Z.qs q_14) (Z.qd q_14) * Z.qv (Z.qn q_20) (Z.qs q_20) (Z.qd q_20)); letI q_15 := (Z.qv (Z.qn q_2) (Z.qs q_2) (Z.qd q_2) - Z.qv (Z.qn q_11) (Z.qs q_11) (Z.qd q_11)); letI q_21 := (Z.qv (Z.qn q_12) (Z.qs q_12) (Z.qd q_12) - Z.qv (Z.qn q_10) (Z.qs q_10) (Z.qd q_10)); letI q_27 := (Z.qv (Z.qn q_15) (Z.qs q_15) (Z.qd q_15) * Z.qv (Z.qn q_21) (Z.qs q_21) (Z.qd q_21)); letI q_4 := (Z.qv (Z.qn q_26) (Z.qs q_26) (Z.qd q_26) - Z.qv (Z.qn q_27) (Z.qs q_27) (Z.qd q_27)); letI q_36 := (Z.qv (Z.qn q_8) (Z.qs q_8) (Z.qd q_8) - Z.qv (Z.qn q_1) (Z.qs q_1) (Z.qd q_1)); letI q_28 := (Z.qv (Z.qn q_13) (Z.qs q_13) (Z.qd q_13) - Z.qv (Z.qn q_2) (Z.qs q_2) (Z.qd q_2)); letI q_18 := (Z.qv (Z.qn q_36) (Z.qs q_36) (Z.qd q_36) * Z.qv (Z.qn q_28) (Z.qs q_28) (Z.qd q_28)); letI q_37 := (Z.qv (Z.qn q_9) (Z.qs q_9) (Z.qd q_9) - Z.qv (Z.qn q_2) (Z.qs q_2) (Z.qd q_2)); letI q_29 := (Z.qv (Z.qn q_12) (Z.qs q_12) (Z.qd q_12) - Z.qv (Z.qn q_1) (Z.qs q_1) (Z.qd q_1)); letI q_19 := (Z.qv (Z.qn q_37) (Z.qs q_37) (Z.qd q_37) * Z.qv (Z.qn q_29) (Z.qs q_29) (Z.qd q_29)); letI q_5 := (Z.qv (Z.qn q_18) (Z.qs q_18) (Z.qd q_18) - Z.qv (Z.qn q_19) (Z.qs q_19) (Z.qd q_19)); letI q_34 := (Z.qv (Z.qn q_1) (Z.qs q_1) (Z.qd q_1) - Z.qv (Z.qn q_8) (Z.qs q_8) (Z.qd q_8)); letI q_22 := (Z.qv (Z.qn q_34) (Z.qs q_34) (Z.qd q_34) * Z.qv (Z.qn q_8) (Z.qs q_8) (Z.qd q_8)); letI q_35 := (Z.qv (Z.qn q_2) (Z.qs q_2) (Z.qd q_2) - Z.qv (Z.qn q_9) (Z.qs q_9) (Z.qd q_9)); letI q_23 := (Z.qv (Z.qn q_35) (Z.qs q_35) (Z.qd q_35) * Z.qv (Z.qn q_9) (Z.qs q_9) (Z.qd q_9)); letI q_6 := (Z.qv (Z.qn q_22) (Z.qs q_22) (Z.qd q_22) + Z.qv (Z.qn q_23) (Z.qs q_23) (Z.qd q_23)); letI q_24 := (Z.qv (Z.qn q_14) (Z.qs q_14) (Z.qd q_14) * Z.qv (Z.qn q_10) (Z.qs q_10) (Z.qd q_10)); letI q_25 := (Z.qv (Z.qn q_15) (Z.qs q_15) (Z.qd q_15) * Z.qv (Z.qn q_11) (Z.qs q_11) (Z.qd q_11)); letI q_7 := (Z.qv (Z.qn q_24) (Z.qs q_24) (Z.qd q_24) + Z.qv (Z.qn q_25) (Z.qs q_25) (Z.qd q_25));
  (bif ok5 n d && ok5 m e && decide (K.kc b n d c m e = (0 : Int)) && (ok5 n3 d3 && ok5 m3 e3 && decide (K.kc b3 n3 d3 c3 m3 e3 = (0 : Int))) && (ok5 n4 d4 && ok5 m4 e4) then (bif !decide (K.ck (0 : Int) (0 : Int) (Z.qv b n d) (Z.qv c m e) (Z.qv b3 n3 d3) (Z.qv c3 m3 e3) = (0 : Int)) then (bif decide (K.ck (0 : Int) (0 : Int) (Z.qv b n d) (Z.qv c m e) (Z.qv b3 n3 d3) (Z.qv c3 m3 e3) = (2 : Int)) then some (.val (.bool true)) else some (.val (.bool false))) else (bif ok6 n d && ok6 m e && decide (K.kc b n d c m e = (0 : Int)) && (ok6 n4 d4 && ok6 m4 e4) then (bif ok6 n3 d3 && ok6 m3 e3 && decide (K.kc b3 n3 d3 c3 m3 e3 = (0 : Int)) && (ok6 n4 d4 && ok6 m4 e4) then (bif ok6 n2 d2 && ok6 m2 e2 && decide (K.kc b2 n2 d2 c2 m2 e2 = (0 : Int)) && (ok6 n4 d4 && ok6 m4 e4) then (bif ok5 n d && ok5 m e && decide (K.kc b n d c m e = (0 : Int)) && (ok5 n2 d2 && ok5 m2 e2 && decide (K.kc b2 n2 d2 c2 m2 e2 = (0 : Int))) && (ok5 n3 d3 && ok5 m3 e3 && decide (K.kc b3 n3 d3 c3 m3 e3 = (0 : Int))) then (bif Z.ok (Z.qs q_1) (Z.qd q_1) && Z.ok (Z.qs q_10) (Z.qd q_10) then (bif Z.ok (Z.qs q_2) (Z.qd q_2) && Z.ok (Z.qs q_11) (Z.qd q_11) then (bif Z.ok (Z.qs q_14) (Z.qd q_14) && Z.ok (Z.qs q_10) (Z.qd q_10) then (bif Z.ok (Z.qs q_15) (Z.qd q_15) && Z.ok (Z.qs q_11) (Z.qd q_11) then (bif Z.ok (Z.qs q_24) (Z.qd q_24) && Z.ok (Z.qs q_25) (Z.qd q_25) then (bif Z.ok (Z.qs q_7) (Z.qd q_7) then (bif !decide (Z.sq (Z.qv (Z.qn q_7) (Z.qs q_7) (Z.qd q_7)) = (0 : Int)) then some (.val (.bool false)) else (bif Z.ok (Z.qs q_1) (Z.qd q_1) && Z.ok (Z.qs q_8) (Z.qd q_8) then (bif Z.ok (Z.qs q_2) (Z.qd q_2) && Z.ok (Z.qs q_9) (Z.qd q_9) then (bif Z.ok (Z.qs q_34) (Z.qd q_34) && Z.ok (Z.qs q_8) (Z.qd q_8) then (bif Z.ok (Z.qs q_35) (Z.qd q_35) && Z.ok (Z.qs q_9) (Z.qd q_9) then (bif Z.ok (Z.qs q_22) (Z.qd q_22) && Z.ok (Z.qs q_23) (Z.qd q_23) then (bif Z.ok (Z.qs q_6) (Z.qd q_6) then (bif !decide (Z.sq (Z.qv (Z.qn q_6) (Z.qs q_6) (Z.qd q_6)) = (0 : Int)) then some (.val (.bool false)) else (bif !K.bt (Z.qv b n d) (Z.qv c m e) (Z.qv b2 n2 d2) (Z.qv c2 m2 e2) (Z.qv b3 n3 d3) (Z.qv c3 m3 e3) then some (.val (.bool true)) else (bif Z.ok (Z.qs q_1) (Z.qd q_1) && Z.ok (Z.qs q_10) (Z.qd q_10) then (bif Z.ok (Z.qs q_2) (Z.qd q_2) && Z.ok (Z.qs q_11) (Z.qd q_11) then (bif Z.ok (Z.qs q_12) (Z.qd q_12) && Z.ok (Z.qs q_10) (Z.qd q_10) then (bif Z.ok (Z.qs q_13) (Z.qd q_13) && Z.ok (Z.qs q_11) (Z.qd q_11) then (bif Z.ok (Z.qs q_14) (Z.qd q_14) && Z.ok (Z.qs q_20) (Z.qd q_20) then (bif Z.ok (Z.qs q_15) (Z.qd q_15) && Z.ok (Z.qs q_21) (Z.qd q_21) then (bif Z.ok (Z.qs q_26) (Z.qd q_26) && Z.ok (Z.qs q_27) (Z.qd q_27) then (bif Z.ok (Z.qs q_4) (Z.qd q_4) then (bif decide ((0 : Int) ≤ Z.sq (Z.qv (Z.qn q_4) (Z.qs q_4) (Z.qd q_4))) then (bif Z.ok (Z.qs q_8) (Z.qd q_8) && Z.ok (Z.qs q_1) (Z.qd q_1) then (bif Z.ok (Z.qs q_9) (Z.qd q_9) && Z.ok (Z.qs q_2) (Z.qd q_2) then (bif Z.ok (Z.qs q_12) (Z.qd q_12) && Z.ok (Z.qs q_1) (Z.qd q_1) then (bif Z.ok (Z.qs q_13) (Z.qd q_13) && Z.ok (Z.qs q_2) (Z.qd q_2) then (bif Z.ok (Z.qs q_36) (Z.qd q_36) && Z.ok (Z.qs q_28) (Z.qd q_28) then (bif Z.ok (Z.qs q_37) (Z.qd q_37) && Z.ok (Z.qs q_29) (Z.qd q_29) then (bif Z.ok (Z.qs q_18) (Z.qd q_18) && Z.ok (Z.qs q_19) (Z.qd q_19) then (bif Z.ok (Z.qs q_5) (Z.qd q_5) then (bif decide ((0 : Int) ≤ Z.sq (Z.qv (Z.qn q_5) (Z.qs q_5) (Z.qd q_5))) then (bif Z.ok (Z.qs q_10) (Z.qd q_10) && Z.ok (Z.qs q_8) (Z.qd q_8) then (bif Z.ok (Z.qs q_11) (Z.qd q_11) && Z.ok (Z.qs q_9) (Z.qd q_9) then (bif Z.ok (Z.qs q_12) (Z.qd q_12) && Z.ok (Z.qs q_8) (Z.qd q_8) then (bif Z.ok (Z.qs q_13) (Z.qd q_13) && Z.ok (Z.qs q_9) (Z.qd q_9) then (bif Z.ok (Z.qs q_30) (Z.qd q_30) && Z.ok (Z.qs q_31) (Z.qd q_31) then (bif Z.ok (Z.qs q_32) (Z.qd q_32) && Z.ok (Z.qs q_33) (Z.qd q_33) then (bif Z.ok (Z.qs q_16) (Z.qd q_16) && Z.ok (Z.qs q_17) (Z.qd q_17) then (bif Z.ok (Z.qs q_3) (Z.qd q_3) then (bif decide ((0 : Int) ≤ Z.sq (Z.qv (Z.qn q_3) (Z.qs q_3) (Z.qd q_3))) then some (.val (.bool true)) else some (.val (.bool false))) else none) else none) else none) else none) else none) else none) else none) else none) else some (.val (.bool false))) else none) else none) else none) else none) else none) else none) else none) else none) else some (.val (.bool false))) else none) else none) else none) else none) else none) else none) else none) else none))) else none) else none) else none) else none) else none) else none)) else none) else none) else none) else none) else none) else none) else none) else none) else none) else none)) else none)
theorem corner_tree (Z : Qg) (K : Kg) (b c b2 c2 b3 c3 b4 c4 : Bool) (n d m e n2 d2 m2 e2 n3 d3 m3 e3 n4 d4 m4 e4 : BA) : (callA Tryz.prog ⟨CCr Z K, Kall, noL⟩ 10 10 9 [av6 b n d c m e, av6 b2 n2 d2 c2 m2 e2, av6 b3 n3 d3 c3 m3 e3, av6 b4 n4 d4 c4 m4 e4] = (bif decide ((40 : Int) < (↑(ByteArray.size n) : Int)) then some (.val (.bool true)) else (bif decide ((40 : Int) < (↑(ByteArray.size d) : Int)) then some (.val (.bool true)) else (bif decide ((40 : Int) < (↑(ByteArray.size m) : Int)) then some (.val (.bool true)) else (bif decide ((40 : Int) < (↑(ByteArray.size e) : Int)) then some (.val (.bool true)) else (bif ok6 n d && ok6 m e then (bif !decide (K.kc b n d c m e = (0 : Int)) then some (.val (.bool true)) else (bif decide ((40 : Int) < (↑(ByteArray.size n2) : Int)) then some (.val (.bool true)) else (bif decide ((40 : Int) < (↑(ByteArray.size d2) : Int)) then some (.val (.bool true)) else (bif decide ((40 : Int) < (↑(ByteArray.size m2) : Int)) then some (.val (.bool true)) else (bif decide ((40 : Int) < (↑(ByteArray.size e2) : Int)) then some (.val (.bool true)) else (bif ok6 n2 d2 && ok6 m2 e2 then (bif !decide (K.kc b2 n2 d2 c2 m2 e2 = (0 : Int)) then some (.val (.bool true)) else (bif decide ((40 : Int) < (↑(ByteArray.size n3) : Int)) then some (.val (.bool true)) else (bif decide ((40 : Int) < (↑(ByteArray.size d3) : Int)) then some (.val (.bool true)) else (bif decide ((40 : Int) < (↑(ByteArray.size m3) : Int)) then some (.val (.bool true)) else (bif decide ((40 : Int) < (↑(ByteArray.size e3) : Int)) then some (.val (.bool true)) else (bif ok6 n3 d3 && ok6 m3 e3 then (bif !decide (K.kc b3 n3 d3 c3 m3 e3 = (0 : Int)) then some (.val (.bool true)) else (bif decide ((40 : Int) < (↑(ByteArray.size n4) : Int)) then some (.val (.bool true)) else (bif decide ((40 : Int) < (↑(ByteArray.size d4) : Int)) then some (.val (.bool true)) else (bif decide ((40 : Int) < (↑(ByteArray.size m4) : Int)) then some (.val (.bool true)) else (bif decide ((40 : Int) < (↑(ByteArray.size e4) : Int)) then some (.val (.bool true)) else (cor_tail Z K b c b2 c2 b3 c3 b4 c4 n d m e n2 d2 m2 e2 n3 d3 m3 e3 n4 d4 m4 e4)))))) else none)))))) else none)))))) else none)))))) := by kernel_rfl
end
end Go.Proofs.YtnmnglcdoegbiaaGreat.L
set_option linter.unusedVariables false
set_option linter.unusedSimpArgs false
namespace Go.Proofs.YtnmnglcdoegbiaaGreat.L
open Go Go.V Go.RowKit Go.Proofs.YtnmnglcdoegbiaaGreat.Sp Go.Proofs.YtnmnglcdoegbiaaGreat.F
open Go.Proofs (Tryz.prog)
noncomputable section
theorem ok5_40 {n d : BA} (h1 : ¬ (40 : Int) < n.size) (h2 : ¬ (40 : Int) < d.size) : ok5 n d = true := by
  unfold ok5
  rw [decide_eq_true (show n.size ≤ 10000 by omega), decide_eq_true (show d.size ≤ 10000 by omega)]; rfl
end
end Go.Proofs.YtnmnglcdoegbiaaGreat.L
set_option linter.unusedVariables false
set_option linter.unusedSimpArgs false
namespace Go.Proofs.YtnmnglcdoegbiaaGreat.L
open Go Go.V Go.RowKit Go.Proofs.YtnmnglcdoegbiaaGreat.Sp Go.Proofs.YtnmnglcdoegbiaaGreat.F
open Go.Proofs (Tryz.prog)
noncomputable section
theorem CCr_ok : Meets Tryz.prog (CCr sq0 kg0) := ((CIm_ok.add eVBetween).add eVCorner).add eQSign
theorem ok_v {a : Rat} (ha : szq a ≤ 1000) : sq0.ok (sq0.qs a) (sq0.qd a) = true := ok_rat (by omega)
theorem sz_d {a b : Rat} (ha : szq a ≤ 1000) (hb : szq b ≤ 1000) : szq (a - b) ≤ 2001 := by have := szq_sub a b; omega
theorem ok_d {a b : Rat} (ha : szq a ≤ 1000) (hb : szq b ≤ 1000) : sq0.ok (sq0.qs (a - b)) (sq0.qd (a - b)) = true := ok_rat (by have := sz_d ha hb; omega)
theorem sz_m {a b c d : Rat} (ha : szq a ≤ 1000) (hb : szq b ≤ 1000) (hc : szq c ≤ 1000) (hd : szq d ≤ 1000) : szq ((a - b) * (c - d)) ≤ 4002 := by have := sz_d ha hb; have := sz_d hc hd; have := szq_mul (a - b) (c - d); omega
theorem ok_m {a b c d : Rat} (ha : szq a ≤ 1000) (hb : szq b ≤ 1000) (hc : szq c ≤ 1000) (hd : szq d ≤ 1000) : sq0.ok (sq0.qs ((a - b) * (c - d))) (sq0.qd ((a - b) * (c - d))) = true := ok_rat (by have := sz_m ha hb hc hd; omega)
theorem sz_n {a b c : Rat} (ha : szq a ≤ 1000) (hb : szq b ≤ 1000) (hc : szq c ≤ 1000) : szq ((a - b) * c) ≤ 4002 := by have := sz_d ha hb; have := szq_mul (a - b) c; omega
theorem ok_n {a b c : Rat} (ha : szq a ≤ 1000) (hb : szq b ≤ 1000) (hc : szq c ≤ 1000) : sq0.ok (sq0.qs ((a - b) * c)) (sq0.qd ((a - b) * c)) = true := ok_rat (by have := sz_n ha hb hc; omega)
theorem ok_s {a b : Rat} (ha : szq a ≤ 4002) (hb : szq b ≤ 4002) : sq0.ok (sq0.qs (a - b)) (sq0.qd (a - b)) = true := ok_rat (by have := szq_sub a b; omega)
theorem ok_a {a b : Rat} (ha : szq a ≤ 4002) (hb : szq b ≤ 4002) : sq0.ok (sq0.qs (a + b)) (sq0.qd (a + b)) = true := ok_rat (by have := szq_add a b; omega)
theorem corner_true (b c b2 c2 b3 c3 b4 c4 : Bool) (n d m e n2 d2 m2 e2 n3 d3 m3 e3 n4 d4 m4 e4 : BA) : callA Tryz.prog ⟨CCr sq0 kg0, Kall, noL⟩ 10 10 9 [av6 b n d c m e, av6 b2 n2 d2 c2 m2 e2, av6 b3 n3 d3 c3 m3 e3, av6 b4 n4 d4 c4 m4 e4] = some (.val (.bool true)) := by
  rw [corner_tree]
  by_cases an1 : (40 : Int) < n.size
  · rw [dT an1]; rfl
  by_cases ad1 : (40 : Int) < d.size
  · rw [dF an1, dT ad1]; rfl
  by_cases am1 : (40 : Int) < m.size
  · rw [dF an1, dF ad1, dT am1]; rfl
  by_cases ae1 : (40 : Int) < e.size
  · rw [dF an1, dF ad1, dF am1, dT ae1]; rfl
  have ox1 := ok40 an1 ad1
  have oy1 := ok40 am1 ae1
  by_cases k1 : kg0.kc b n d c m e = 0
  case neg => rw [dF an1, dF ad1, dF am1, dF ae1, ox1, oy1, dF k1]; rfl
  by_cases an2 : (40 : Int) < n2.size
  · rw [dF an1, dF ad1, dF am1, dF ae1, ox1, oy1, dT k1, dT an2]; rfl
  by_cases ad2 : (40 : Int) < d2.size
  · rw [dF an1, dF ad1, dF am1, dF ae1, ox1, oy1, dT k1, dF an2, dT ad2]; rfl
  by_cases am2 : (40 : Int) < m2.size
  · rw [dF an1, dF ad1, dF am1, dF ae1, ox1, oy1, dT k1, dF an2, dF ad2, dT am2]; rfl
  by_cases ae2 : (40 : Int) < e2.size
  · rw [dF an1, dF ad1, dF am1, dF ae1, ox1, oy1, dT k1, dF an2, dF ad2, dF am2, dT ae2]; rfl
  have ox2 := ok40 an2 ad2
  have oy2 := ok40 am2 ae2
  by_cases k2 : kg0.kc b2 n2 d2 c2 m2 e2 = 0
  case neg => rw [dF an1, dF ad1, dF am1, dF ae1, ox1, oy1, dT k1, dF an2, dF ad2, dF am2, dF ae2, ox2, oy2, dF k2]; rfl
  by_cases an3 : (40 : Int) < n3.size
  · rw [dF an1, dF ad1, dF am1, dF ae1, ox1, oy1, dT k1, dF an2, dF ad2, dF am2, dF ae2, ox2, oy2, dT k2, dT an3]; rfl
  by_cases ad3 : (40 : Int) < d3.size
  · rw [dF an1, dF ad1, dF am1, dF ae1, ox1, oy1, dT k1, dF an2, dF ad2, dF am2, dF ae2, ox2, oy2, dT k2, dF an3, dT ad3]; rfl
  by_cases am3 : (40 : Int) < m3.size
  · rw [dF an1, dF ad1, dF am1, dF ae1, ox1, oy1, dT k1, dF an2, dF ad2, dF am2, dF ae2, ox2, oy2, dT k2, dF an3, dF ad3, dT am3]; rfl
  by_cases ae3 : (40 : Int) < e3.size
  · rw [dF an1, dF ad1, dF am1, dF ae1, ox1, oy1, dT k1, dF an2, dF ad2, dF am2, dF ae2, ox2, oy2, dT k2, dF an3, dF ad3, dF am3, dT ae3]; rfl
  have ox3 := ok40 an3 ad3
  have oy3 := ok40 am3 ae3
  by_cases k3 : kg0.kc b3 n3 d3 c3 m3 e3 = 0
  case neg => rw [dF an1, dF ad1, dF am1, dF ae1, ox1, oy1, dT k1, dF an2, dF ad2, dF am2, dF ae2, ox2, oy2, dT k2, dF an3, dF ad3, dF am3, dF ae3, ox3, oy3, dF k3]; rfl
  by_cases an4 : (40 : Int) < n4.size
  · rw [dF an1, dF ad1, dF am1, dF ae1, ox1, oy1, dT k1, dF an2, dF ad2, dF am2, dF ae2, ox2, oy2, dT k2, dF an3, dF ad3, dF am3, dF ae3, ox3, oy3, dT k3, dT an4]; rfl
  by_cases ad4 : (40 : Int) < d4.size
  · rw [dF an1, dF ad1, dF am1, dF ae1, ox1, oy1, dT k1, dF an2, dF ad2, dF am2, dF ae2, ox2, oy2, dT k2, dF an3, dF ad3, dF am3, dF ae3, ox3, oy3, dT k3, dF an4, dT ad4]; rfl
  by_cases am4 : (40 : Int) < m4.size
  · rw [dF an1, dF ad1, dF am1, dF ae1, ox1, oy1, dT k1, dF an2, dF ad2, dF am2, dF ae2, ox2, oy2, dT k2, dF an3, dF ad3, dF am3, dF ae3, ox3, oy3, dT k3, dF an4, dF ad4, dT am4]; rfl
  by_cases ae4 : (40 : Int) < e4.size
  · rw [dF an1, dF ad1, dF am1, dF ae1, ox1, oy1, dT k1, dF an2, dF ad2, dF am2, dF ae2, ox2, oy2, dT k2, dF an3, dF ad3, dF am3, dF ae3, ox3, oy3, dT k3, dF an4, dF ad4, dF am4, dT ae4]; rfl
  rw [dF an1, dF ad1, dF am1, dF ae1, ox1, oy1, dT k1, dF an2, dF ad2, dF am2, dF ae2, ox2, oy2, dT k2, dF an3, dF ad3, dF am3, dF ae3, ox3, oy3, dT k3, dF an4, dF ad4, dF am4, dF ae4]
  have ox4 := ok40 an4 ad4
  have oy4 := ok40 am4 ae4
  have zx4 : szq (sq0.qv b4 n4 d4) ≤ 40 := by have := szq_val b4 n4 d4; omega
  have zy4 : szq (sq0.qv c4 m4 e4) ≤ 40 := by have := szq_val c4 m4 e4; omega
  have jx4 := (ok6_ok ox4).1
  have jy4 := (ok6_ok oy4).1
  obtain ⟨x1, y1, u1, rfl, rfl, rfl, rfl, rfl, rfl⟩ := kc_canon k1
  have zx1 := sz40 x1 an1 ad1
  have zy1 := sz40 y1 am1 ae1
  obtain ⟨x2, y2, u2, rfl, rfl, rfl, rfl, rfl, rfl⟩ := kc_canon k2
  have zx2 := sz40 x2 an2 ad2
  have zy2 := sz40 y2 am2 ae2
  obtain ⟨x3, y3, u3, rfl, rfl, rfl, rfl, rfl, rfl⟩ := kc_canon k3
  have zx3 := sz40 x3 an3 ad3
  have zy3 := sz40 y3 am3 ae3
  have p1 := ok5_40 an1 ad1
  have p2 := ok5_40 am1 ae1
  have p3 := ok5_40 an2 ad2
  have p4 := ok5_40 am2 ae2
  have p5 := ok5_40 an3 ad3
  have p6 := ok5_40 am3 ae3
  have p7 := ok5_40 an4 ad4
  have p8 := ok5_40 am4 ae4
  have hb : ∀ x y p q u v, kg0.bt x y p q u v = btn x y p q u v := fun x y p q u v => rfl
  unfold cor_tail
  simp only [qv_rat, ox1, oy1, ox2, oy2, ox3, oy3, kcu u1, kcu u2, kcu u3, p1, p2, p3, p4, p5, p6, p7, p8, ox4, oy4, hb, ck00, sqz, Bool.and_self, cond_true, cond_false]
  clear p1 p2 p3 p4 p5 p6 p7 p8
  generalize sq0.qv b4 n4 d4 = p at *
  generalize sq0.qv c4 m4 e4 = q at *
  by_cases hh : hfn (d1 x1 y1 x3 y3) (d2 x1 y1 x3 y3) = 1
  · rw [if_pos hh]; rfl
  · rw [if_neg hh]
    simp only [sel_0]
    obtain ⟨E1, E2, E3, E4, E5⟩ := cor_ok p q u1 u2 u3 hh (kg0.c1 x1 y1 x3 y3 p q) (kg0.c2 x1 y1 x3 y3 p q) rfl rfl
    have sw : x2 * q + y2 * p = y2 * p + x2 * q := by grind
    rw [sw] at E3 E4 E5
    have s1 := szq_d1 x1 y1 x3 y3
    have b1 : d1 x1 y1 x3 y3 = x1 * x3 - -y1 * y3 := rfl
    rw [← b1] at s1
    have s2 := szq_one
    have s3 := szq_add 1 (d1 x1 y1 x3 y3)
    have hU1 := szq_t1 x1 y1 p q
    have hU2 := szq_t2 x1 y1 p q
    have hV1 := szq_t1 x3 y3 p q
    have hV2 := szq_t2 x3 y3 p q
    have hW1 := szq_t1 x2 y2 p q
    have hW2 := szq_t2 x2 y2 p q
    have s4 := szq_add (x1 * p - y1 * q) (x3 * p - y3 * q)
    have s5 := szq_add (y1 * p + x1 * q) (y3 * p + x3 * q)
    have hC1 : szq (kg0.c1 x1 y1 x3 y3 p q) ≤ 1000 := by
      have e : kg0.c1 x1 y1 x3 y3 p q = (x1 * p - y1 * q + (x3 * p - y3 * q)) / (1 + d1 x1 y1 x3 y3) := rfl
      have := szq_div (x1 * p - y1 * q + (x3 * p - y3 * q)) (1 + d1 x1 y1 x3 y3)
      rw [e]; omega
    have hC2 : szq (kg0.c2 x1 y1 x3 y3 p q) ≤ 1000 := by
      have e : kg0.c2 x1 y1 x3 y3 p q = (y1 * p + x1 * q + (y3 * p + x3 * q)) / (1 + d1 x1 y1 x3 y3) := rfl
      have := szq_div (y1 * p + x1 * q + (y3 * p + x3 * q)) (1 + d1 x1 y1 x3 y3)
      rw [e]; omega
    replace hU1 : szq (x1 * p - y1 * q) ≤ 1000 := by omega
    replace hU2 : szq (y1 * p + x1 * q) ≤ 1000 := by omega
    replace hV1 : szq (x3 * p - y3 * q) ≤ 1000 := by omega
    replace hV2 : szq (y3 * p + x3 * q) ≤ 1000 := by omega
    replace hW1 : szq (x2 * p - y2 * q) ≤ 1000 := by omega
    replace hW2 : szq (y2 * p + x2 * q) ≤ 1000 := by omega
    clear s1 s2 s3 s4 s5 b1 sw hh
    generalize kg0.c1 x1 y1 x3 y3 p q = C1 at *
    generalize kg0.c2 x1 y1 x3 y3 p q = C2 at *
    generalize x1 * p - y1 * q = U1 at *
    generalize y1 * p + x1 * q = U2 at *
    generalize x3 * p - y3 * q = V1 at *
    generalize y3 * p + x3 * q = V2 at *
    generalize x2 * p - y2 * q = W1 at *
    generalize y2 * p + x2 * q = W2 at *
    simp only [ok_v hC1, ok_v hC2, ok_v hU1, ok_v hU2, ok_v hV1, ok_v hV2, ok_v hW1, ok_v hW2, ok_d hC1 hU1, ok_d hC2 hU2, ok_d hC1 hV1, ok_d hC2 hV2, ok_d hW2 hU2, ok_d hW1 hU1, ok_d hV1 hC1, ok_d hV2 hC2, ok_d hW2 hC2, ok_d hW1 hC1, ok_d hU1 hV1, ok_d hU2 hV2, ok_d hW2 hV2, ok_d hW1 hV1, ok_n hC1 hU1 hU1, ok_n hC2 hU2 hU2, ok_n hC1 hV1 hV1, ok_n hC2 hV2 hV2, ok_m hC1 hU1 hW2 hU2, ok_m hC2 hU2 hW1 hU1, ok_s (sz_m hC1 hU1 hW2 hU2) (sz_m hC2 hU2 hW1 hU1), ok_m hV1 hC1 hW2 hC2, ok_m hV2 hC2 hW1 hC1, ok_s (sz_m hV1 hC1 hW2 hC2) (sz_m hV2 hC2 hW1 hC1), ok_m hU1 hV1 hW2 hV2, ok_m hU2 hV2 hW1 hV1, ok_s (sz_m hU1 hV1 hW2 hV2) (sz_m hU2 hV2 hW1 hV1), ok_a (sz_n hC1 hU1 hU1) (sz_n hC2 hU2 hU2), ok_a (sz_n hC1 hV1 hV1) (sz_n hC2 hV2 hV2), Bool.and_self, cond_true]
    rw [dT ((cq_zero _ _).2 E1), dT ((cq_zero _ _).2 E2), dT ((cq_ge _ _).2 E3), dT ((cq_ge _ _).2 E4)]
    cases ht : btn x1 y1 x2 y2 x3 y3
    · rfl
    · rw [dT ((cq_ge _ _).2 (E5 ht))]; rfl
theorem corner_walk (b : Bool) (n d : BA) (c : Bool) (m e : BA) (b2 : Bool) (n2 d2 : BA) (c2 : Bool) (m2 e2 : BA) (b3 : Bool) (n3 d3 : BA) (c3 : Bool) (m3 e3 : BA) (b4 : Bool) (n4 d4 : BA) (c4 : Bool) (m4 e4 : BA) (W : World) : Calls Tryz.prog 9 #[.agg #[.bool b, .string n, .string d, .bool c, .string m, .string e], .agg #[.bool b2, .string n2, .string d2, .bool c2, .string m2, .string e2], .agg #[.bool b3, .string n3, .string d3, .bool c3, .string m3, .string e3], .agg #[.bool b4, .string n4, .string d4, .bool c4, .string m4, .string e4]] W fun e w' => e = .returned (.bool true) ∧ Below W.heap.size W w' :=
  law_walk CCr_ok loops_none (by kernel_rfl) (corner_true b c b2 c2 b3 c3 b4 c4 n d m e n2 d2 m2 e2 n3 d3 m3 e3 n4 d4 m4 e4) W ⟨_, _, rfl, arg_pair _ _ b n d c m e, _, _, rfl, arg_pair _ _ b2 n2 d2 c2 m2 e2, _, _, rfl, arg_pair _ _ b3 n3 d3 c3 m3 e3, _, _, rfl, arg_pair _ _ b4 n4 d4 c4 m4 e4, rfl⟩
end
end Go.Proofs.YtnmnglcdoegbiaaGreat.L
