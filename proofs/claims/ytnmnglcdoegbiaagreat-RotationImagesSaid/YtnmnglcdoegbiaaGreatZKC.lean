/- Laws of rotations, as trees: the group, the images. -/
import Derived.Test.YtnmnglcdoegbiaaGreatZKB
set_option linter.unusedVariables false
set_option linter.unusedSimpArgs false

/- Laws of rotations, as trees: the group, the images. -/
set_option linter.unusedVariables false
namespace Go.Proofs.YtnmnglcdoegbiaaGreat.L
open Go Go.V Go.RowKit Go.Proofs.YtnmnglcdoegbiaaGreat.Sp
open Go.Proofs (Tryz.prog)
noncomputable section
def CGr (Z : Qg) (K : Kg) : FuncId → TF := addC 21 (vThen Z K) (addC 12 (vBack Z K) (addC 14 (xKNone Z) (addC 15 (tKCheck K) (addC 27 (tKCheck K) (addC 11 tAwakeK noC)))))
def CIm (Z : Qg) (K : Kg) : FuncId → TF := addC 48 (tQMul Z) (addC 50 (tQAdd Z) (addC 51 (tQSub Z) (addC 17 (vApply Z K) (CGr Z K))))
theorem images_tree (Z : Qg) (K : Kg) (b c b2 c2 b3 c3 b4 c4 : Bool) (n d m e n2 d2 m2 e2 n3 d3 m3 e3 n4 d4 m4 e4 : BA) : letI q_3 := (Z.qv b n d * Z.qv b3 n3 d3 - Z.qv c m e * Z.qv c3 m3 e3); letI q_7 := (Z.qv b n d * Z.qv b4 n4 d4 - Z.qv c m e * Z.qv c4 m4 e4); letI q_15 := (Z.qv (Z.qn q_3) (Z.qs q_3) (Z.qd q_3) * Z.qv (Z.qn q_7) (Z.qs q_7) (Z.qd q_7)); letI q_4 := (Z.qv c m e * Z.qv b3 n3 d3 + Z.qv b n d * Z.qv c3 m3 e3); letI q_8 := (Z.qv c m e * Z.qv b4 n4 d4 + Z.qv b n d * Z.qv c4 m4 e4); letI q_16 := (Z.qv (Z.qn q_4) (Z.qs q_4) (Z.qd q_4) * Z.qv (Z.qn q_8) (Z.qs q_8) (Z.qd q_8)); letI q_1 := (Z.qv (Z.qn q_15) (Z.qs q_15) (Z.qd q_15) + Z.qv (Z.qn q_16) (Z.qs q_16) (Z.qd q_16)); letI q_17 := (Z.qv (Z.qn q_3) (Z.qs q_3) (Z.qd q_3) * Z.qv (Z.qn q_8) (Z.qs q_8) (Z.qd q_8)); letI q_18 := (Z.qv (Z.qn q_4) (Z.qs q_4) (Z.qd q_4) * Z.qv (Z.qn q_7) (Z.qs q_7) (Z.qd q_7)); letI q_2 := (Z.qv (Z.qn q_17) (Z.qs q_17) (Z.qd q_17) - Z.qv (Z.qn q_18) (Z.qs q_18) (Z.qd q_18)); letI q_13 := (Z.qv b n d * Z.qv b2 n2 d2 - Z.qv c m e * Z.qv c2 m2 e2); letI q_14 := (Z.qv c m e * Z.qv b2 n2 d2 + Z.qv b n d * Z.qv c2 m2 e2); letI q_5 := (Z.qv (Z.qn q_13) (Z.qs q_13) (Z.qd q_13) * Z.qv b3 n3 d3 - Z.qv (Z.qn q_14) (Z.qs q_14) (Z.qd q_14) * Z.qv c3 m3 e3); letI q_6 := (Z.qv (Z.qn q_14) (Z.qs q_14) (Z.qd q_14) * Z.qv b3 n3 d3 + Z.qv (Z.qn q_13) (Z.qs q_13) (Z.qd q_13) * Z.qv c3 m3 e3); letI q_19 := (Z.qv b3 n3 d3 * Z.qv b4 n4 d4); letI q_20 := (Z.qv c3 m3 e3 * Z.qv c4 m4 e4); letI q_9 := (Z.qv (Z.qn q_19) (Z.qs q_19) (Z.qd q_19) + Z.qv (Z.qn q_20) (Z.qs q_20) (Z.qd q_20)); letI q_21 := (Z.qv b3 n3 d3 * Z.qv c4 m4 e4); letI q_22 := (Z.qv c3 m3 e3 * Z.qv b4 n4 d4); letI q_10 := (Z.qv (Z.qn q_21) (Z.qs q_21) (Z.qd q_21) - Z.qv (Z.qn q_22) (Z.qs q_22) (Z.qd q_22)); letI q_11 := (Z.qv b2 n2 d2 * Z.qv (Z.qn q_3) (Z.qs q_3) (Z.qd q_3) - Z.qv c2 m2 e2 * Z.qv (Z.qn q_4) (Z.qs q_4) (Z.qd q_4)); letI q_12 := (Z.qv c2 m2 e2 * Z.qv (Z.qn q_3) (Z.qs q_3) (Z.qd q_3) + Z.qv b2 n2 d2 * Z.qv (Z.qn q_4) (Z.qs q_4) (Z.qd q_4)); 
    (callA Tryz.prog ⟨CIm Z K, Kall, noL⟩ 10 10 4 [av6 b n d c m e, av6 b2 n2 d2 c2 m2 e2, av6 b3 n3 d3 c3 m3 e3, av6 b4 n4 d4 c4 m4 e4] = (bif decide ((40 : Int) < (↑(ByteArray.size n) : Int)) then some (.val (.bool true)) else (bif decide ((40 : Int) < (↑(ByteArray.size d) : Int)) then some (.val (.bool true)) else (bif decide ((40 : Int) < (↑(ByteArray.size m) : Int)) then some (.val (.bool true)) else (bif decide ((40 : Int) < (↑(ByteArray.size e) : Int)) then some (.val (.bool true)) else (bif ok6 n d && ok6 m e then (bif !decide (K.kc b n d c m e = (0 : Int)) then some (.val (.bool true)) else (bif decide ((40 : Int) < (↑(ByteArray.size n2) : Int)) then some (.val (.bool true)) else (bif decide ((40 : Int) < (↑(ByteArray.size d2) : Int)) then some (.val (.bool true)) else (bif decide ((40 : Int) < (↑(ByteArray.size m2) : Int)) then some (.val (.bool true)) else (bif decide ((40 : Int) < (↑(ByteArray.size e2) : Int)) then some (.val (.bool true)) else (bif ok6 n2 d2 && ok6 m2 e2 then (bif !decide (K.kc b2 n2 d2 c2 m2 e2 = (0 : Int)) then some (.val (.bool true)) else (bif decide ((40 : Int) < (↑(ByteArray.size n3) : Int)) then some (.val (.bool true)) else (bif decide ((40 : Int) < (↑(ByteArray.size d3) : Int)) then some (.val (.bool true)) else (bif decide ((40 : Int) < (↑(ByteArray.size m3) : Int)) then some (.val (.bool true)) else (bif decide ((40 : Int) < (↑(ByteArray.size e3) : Int)) then some (.val (.bool true)) else (bif decide ((40 : Int) < (↑(ByteArray.size n4) : Int)) then some (.val (.bool true)) else (bif decide ((40 : Int) < (↑(ByteArray.size d4) : Int)) then some (.val (.bool true)) else (bif decide ((40 : Int) < (↑(ByteArray.size m4) : Int)) then some (.val (.bool true)) else (bif decide ((40 : Int) < (↑(ByteArray.size e4) : Int)) then some (.val (.bool true)) else (bif ok6 n d && ok6 m e && decide (K.kc b n d c m e = (0 : Int)) && (ok6 n3 d3 && ok6 m3 e3) then (bif ok6 n d && ok6 m e && decide (K.kc b n d c m e = (0 : Int)) && (ok6 n4 d4 && ok6 m4 e4) then (bif ok6 n2 d2 && ok6 m2 e2 && decide (K.kc b2 n2 d2 c2 m2 e2 = (0 : Int)) && (ok6 (Z.qs q_3) (Z.qd q_3) && ok6 (Z.qs q_4) (Z.qd q_4)) then (bif ok6 n d && ok6 m e && decide (K.kc b n d c m e = (0 : Int)) && (ok6 n2 d2 && ok6 m2 e2 && decide (K.kc b2 n2 d2 c2 m2 e2 = (0 : Int))) then (bif ok6 (Z.qs q_13) (Z.qd q_13) && ok6 (Z.qs q_14) (Z.qd q_14) && decide (K.kc (Z.qn q_13) (Z.qs q_13) (Z.qd q_13) (Z.qn q_14) (Z.qs q_14) (Z.qd q_14) = (0 : Int)) && (ok6 n3 d3 && ok6 m3 e3) then (bif Z.ok (Z.qs q_3) (Z.qd q_3) && Z.ok (Z.qs q_7) (Z.qd q_7) then (bif Z.ok (Z.qs q_4) (Z.qd q_4) && Z.ok (Z.qs q_8) (Z.qd q_8) then (bif Z.ok (Z.qs q_15) (Z.qd q_15) && Z.ok (Z.qs q_16) (Z.qd q_16) then (bif Z.ok n3 d3 && Z.ok n4 d4 then (bif Z.ok m3 e3 && Z.ok m4 e4 then (bif Z.ok (Z.qs q_19) (Z.qd q_19) && Z.ok (Z.qs q_20) (Z.qd q_20) then (bif bif false then !(Z.qn q_1 == Z.qn q_9 && (strEq (Z.qs q_1) (Z.qs q_9) && (strEq (Z.qd q_1) (Z.qd q_9) && true))) else Z.qn q_1 == Z.qn q_9 && (strEq (Z.qs q_1) (Z.qs q_9) && (strEq (Z.qd q_1) (Z.qd q_9) && true)) then (bif Z.ok (Z.qs q_3) (Z.qd q_3) && Z.ok (Z.qs q_8) (Z.qd q_8) then (bif Z.ok (Z.qs q_4) (Z.qd q_4) && Z.ok (Z.qs q_7) (Z.qd q_7) then (bif Z.ok (Z.qs q_17) (Z.qd q_17) && Z.ok (Z.qs q_18) (Z.qd q_18) then (bif Z.ok n3 d3 && Z.ok m4 e4 then (bif Z.ok m3 e3 && Z.ok n4 d4 then (bif Z.ok (Z.qs q_21) (Z.qd q_21) && Z.ok (Z.qs q_22) (Z.qd q_22) then (bif bif false then !(Z.qn q_2 == Z.qn q_10 && (strEq (Z.qs q_2) (Z.qs q_10) && (strEq (Z.qd q_2) (Z.qd q_10) && true))) else Z.qn q_2 == Z.qn q_10 && (strEq (Z.qs q_2) (Z.qs q_10) && (strEq (Z.qd q_2) (Z.qd q_10) && true)) then (bif bif false then !(Z.qn q_11 == Z.qn q_5 && (strEq (Z.qs q_11) (Z.qs q_5) && (strEq (Z.qd q_11) (Z.qd q_5) && true)) && (Z.qn q_12 == Z.qn q_6 && (strEq (Z.qs q_12) (Z.qs q_6) && (strEq (Z.qd q_12) (Z.qd q_6) && true)) && true)) else Z.qn q_11 == Z.qn q_5 && (strEq (Z.qs q_11) (Z.qs q_5) && (strEq (Z.qd q_11) (Z.qd q_5) && true)) && (Z.qn q_12 == Z.qn q_6 && (strEq (Z.qs q_12) (Z.qs q_6) && (strEq (Z.qd q_12) (Z.qd q_6) && true)) && true) then some (.val (.bool true)) else some (.val (.bool false))) else some (.val (.bool false))) else none) else none) else none) else none) else none) else none) else some (.val (.bool false))) else none) else none) else none) else none) else none) else none) else none) else none) else none) else none) else none)))))))))) else none)))))) else none)))))) := by kernel_rfl
end
end Go.Proofs.YtnmnglcdoegbiaaGreat.L

/- RotationGroup and RotationImages hold. -/
set_option linter.unusedVariables false
set_option linter.unusedSimpArgs false
namespace Go.Proofs.YtnmnglcdoegbiaaGreat.L
open Go Go.V Go.RowKit Go.Proofs.YtnmnglcdoegbiaaGreat.Sp Go.Proofs.YtnmnglcdoegbiaaGreat.F
open Go.Proofs (Tryz.prog)
noncomputable section
theorem CGr_ok : Meets Tryz.prog (CGr sq0 kg0) := ((((((meets_none _).add eAwakeK).add eRKCheck).add eKCheck).add eXNone).add eVBack).add eVThen
theorem ok40 {n d : BA} (h1 : ¬ (40 : Int) < n.size) (h2 : ¬ (40 : Int) < d.size) : ok6 n d = true := by
  unfold ok6
  rw [decide_eq_true (show n.size ≤ 1000000 by omega), decide_eq_true (show d.size ≤ 1000000 by omega)]; rfl
theorem sz40 (q : Rat) (h1 : ¬ (40 : Int) < (sq0.qs q).size) (h2 : ¬ (40 : Int) < (sq0.qd q).size) : szq q ≤ 40 := by
  have := szq_val (sq0.qn q) (sq0.qs q) (sq0.qd q)
  rw [qv_rat] at this
  omega
theorem arg_pair (B : Nat → Prop) (w : World) (b : Bool) (n d : BA) (c : Bool) (m e : BA) : (AV.agg [.val (.bool b), .val (.string n), .val (.string d), .val (.bool c), .val (.string m), .val (.string e)]).Rel Tryz.prog NoA B w NoD (.agg #[.bool b, .string n, .string d, .bool c, .string m, .string e]) := ⟨_, rfl, _, _, rfl, rfl, _, _, rfl, rfl, _, _, rfl, rfl, _, _, rfl, rfl, _, _, rfl, rfl, _, _, rfl, rfl, rfl⟩
end
end Go.Proofs.YtnmnglcdoegbiaaGreat.L

/- RotationImages holds. -/
set_option linter.unusedVariables false
set_option linter.unusedSimpArgs false
namespace Go.Proofs.YtnmnglcdoegbiaaGreat.L
open Go Go.V Go.RowKit Go.Proofs.YtnmnglcdoegbiaaGreat.Sp Go.Proofs.YtnmnglcdoegbiaaGreat.F
open Go.Proofs (Tryz.prog)
noncomputable section
theorem CIm_ok : Meets Tryz.prog (CIm sq0 kg0) := (((CGr_ok.add eVApply).add eQSub).add eQAdd).add eQMul
theorem images_true (b c b2 c2 b3 c3 b4 c4 : Bool) (n d m e n2 d2 m2 e2 n3 d3 m3 e3 n4 d4 m4 e4 : BA) : callA Tryz.prog ⟨CIm sq0 kg0, Kall, noL⟩ 10 10 4 [av6 b n d c m e, av6 b2 n2 d2 c2 m2 e2, av6 b3 n3 d3 c3 m3 e3, av6 b4 n4 d4 c4 m4 e4] = some (.val (.bool true)) := by
  rw [images_tree]
  by_cases an1 : (40 : Int) < n.size
  · rw [dT an1]; rfl
  by_cases ad1 : (40 : Int) < d.size
  · rw [dF an1, dT ad1]; rfl
  by_cases am1 : (40 : Int) < m.size
  · rw [dF an1, dF ad1, dT am1]; rfl
  by_cases ae1 : (40 : Int) < e.size
  · rw [dF an1, dF ad1, dF am1, dT ae1]; rfl
  have ox1 := ok40 an1 ad1
  have oy1 := ok40 am1 ae1
  by_cases k1 : kg0.kc b n d c m e = 0
  case neg => rw [dF an1, dF ad1, dF am1, dF ae1, ox1, oy1, dF k1]; rfl
  by_cases an2 : (40 : Int) < n2.size
  · rw [dF an1, dF ad1, dF am1, dF ae1, ox1, oy1, dT k1, dT an2]; rfl
  by_cases ad2 : (40 : Int) < d2.size
  · rw [dF an1, dF ad1, dF am1, dF ae1, ox1, oy1, dT k1, dF an2, dT ad2]; rfl
  by_cases am2 : (40 : Int) < m2.size
  · rw [dF an1, dF ad1, dF am1, dF ae1, ox1, oy1, dT k1, dF an2, dF ad2, dT am2]; rfl
  by_cases ae2 : (40 : Int) < e2.size
  · rw [dF an1, dF ad1, dF am1, dF ae1, ox1, oy1, dT k1, dF an2, dF ad2, dF am2, dT ae2]; rfl
  have ox2 := ok40 an2 ad2
  have oy2 := ok40 am2 ae2
  by_cases k2 : kg0.kc b2 n2 d2 c2 m2 e2 = 0
  case neg => rw [dF an1, dF ad1, dF am1, dF ae1, ox1, oy1, dT k1, dF an2, dF ad2, dF am2, dF ae2, ox2, oy2, dF k2]; rfl
  by_cases an3 : (40 : Int) < n3.size
  · rw [dF an1, dF ad1, dF am1, dF ae1, ox1, oy1, dT k1, dF an2, dF ad2, dF am2, dF ae2, ox2, oy2, dT k2, dT an3]; rfl
  by_cases ad3 : (40 : Int) < d3.size
  · rw [dF an1, dF ad1, dF am1, dF ae1, ox1, oy1, dT k1, dF an2, dF ad2, dF am2, dF ae2, ox2, oy2, dT k2, dF an3, dT ad3]; rfl
  by_cases am3 : (40 : Int) < m3.size
  · rw [dF an1, dF ad1, dF am1, dF ae1, ox1, oy1, dT k1, dF an2, dF ad2, dF am2, dF ae2, ox2, oy2, dT k2, dF an3, dF ad3, dT am3]; rfl
  by_cases ae3 : (40 : Int) < e3.size
  · rw [dF an1, dF ad1, dF am1, dF ae1, ox1, oy1, dT k1, dF an2, dF ad2, dF am2, dF ae2, ox2, oy2, dT k2, dF an3, dF ad3, dF am3, dT ae3]; rfl
  by_cases an4 : (40 : Int) < n4.size
  · rw [dF an1, dF ad1, dF am1, dF ae1, ox1, oy1, dT k1, dF an2, dF ad2, dF am2, dF ae2, ox2, oy2, dT k2, dF an3, dF ad3, dF am3, dF ae3, dT an4]; rfl
  by_cases ad4 : (40 : Int) < d4.size
  · rw [dF an1, dF ad1, dF am1, dF ae1, ox1, oy1, dT k1, dF an2, dF ad2, dF am2, dF ae2, ox2, oy2, dT k2, dF an3, dF ad3, dF am3, dF ae3, dF an4, dT ad4]; rfl
  by_cases am4 : (40 : Int) < m4.size
  · rw [dF an1, dF ad1, dF am1, dF ae1, ox1, oy1, dT k1, dF an2, dF ad2, dF am2, dF ae2, ox2, oy2, dT k2, dF an3, dF ad3, dF am3, dF ae3, dF an4, dF ad4, dT am4]; rfl
  by_cases ae4 : (40 : Int) < e4.size
  · rw [dF an1, dF ad1, dF am1, dF ae1, ox1, oy1, dT k1, dF an2, dF ad2, dF am2, dF ae2, ox2, oy2, dT k2, dF an3, dF ad3, dF am3, dF ae3, dF an4, dF ad4, dF am4, dT ae4]; rfl
  rw [dF an1, dF ad1, dF am1, dF ae1, ox1, oy1, dT k1, dF an2, dF ad2, dF am2, dF ae2, ox2, oy2, dT k2, dF an3, dF ad3, dF am3, dF ae3, dF an4, dF ad4, dF am4, dF ae4]
  have ox3 := ok40 an3 ad3
  have oy3 := ok40 am3 ae3
  have zx3 : szq (sq0.qv b3 n3 d3) ≤ 40 := by have := szq_val b3 n3 d3; omega
  have zy3 : szq (sq0.qv c3 m3 e3) ≤ 40 := by have := szq_val c3 m3 e3; omega
  have jx3 := (ok6_ok ox3).1
  have jy3 := (ok6_ok oy3).1
  have ox4 := ok40 an4 ad4
  have oy4 := ok40 am4 ae4
  have zx4 : szq (sq0.qv b4 n4 d4) ≤ 40 := by have := szq_val b4 n4 d4; omega
  have zy4 : szq (sq0.qv c4 m4 e4) ≤ 40 := by have := szq_val c4 m4 e4; omega
  have jx4 := (ok6_ok ox4).1
  have jy4 := (ok6_ok oy4).1
  obtain ⟨x1, y1, u1, rfl, rfl, rfl, rfl, rfl, rfl⟩ := kc_canon k1
  have zx1 := sz40 x1 an1 ad1
  have zy1 := sz40 y1 am1 ae1
  obtain ⟨x2, y2, u2, rfl, rfl, rfl, rfl, rfl, rfl⟩ := kc_canon k2
  have zx2 := sz40 x2 an2 ad2
  have zy2 := sz40 y2 am2 ae2
  generalize sq0.qv b3 n3 d3 = p at *
  generalize sq0.qv c3 m3 e3 = q at *
  generalize sq0.qv b4 n4 d4 = r at *
  generalize sq0.qv c4 m4 e4 = s at *
  have s1 := szq_t1 x1 y1 x2 y2
  have s2 := szq_t2 x1 y1 x2 y2
  have s3 := szq_t1 x1 y1 p q
  have s4 := szq_t2 x1 y1 p q
  have s5 := szq_t1 x1 y1 r s
  have s6 := szq_t2 x1 y1 r s
  have w1 := kcu (unit_then u1 u2)
  have hd := keep_dot u1 p q r s
  have hc := keep_cross u1 p q r s
  have e1 : x2 * (x1 * p - y1 * q) - y2 * (y1 * p + x1 * q) = (x1 * x2 - y1 * y2) * p - (y1 * x2 + x1 * y2) * q := by grind
  have e2 : y2 * (x1 * p - y1 * q) + x2 * (y1 * p + x1 * q) = (y1 * x2 + x1 * y2) * p + (x1 * x2 - y1 * y2) * q := by grind
  have i1 := ok6_rat (q := x1 * x2 - y1 * y2) (by omega)
  have i2 := ok6_rat (q := y1 * x2 + x1 * y2) (by omega)
  have i3 := ok6_rat (q := x1 * p - y1 * q) (by omega)
  have i4 := ok6_rat (q := y1 * p + x1 * q) (by omega)
  have m1 := szq_mul (x1 * p - y1 * q) (x1 * r - y1 * s)
  have m2 := szq_mul (y1 * p + x1 * q) (y1 * r + x1 * s)
  have m3 := szq_mul (x1 * p - y1 * q) (y1 * r + x1 * s)
  have m4 := szq_mul (y1 * p + x1 * q) (x1 * r - y1 * s)
  have m5 := szq_mul p r
  have m6 := szq_mul q s
  have m7 := szq_mul p s
  have m8 := szq_mul q r
  have j1 := ok_rat (q := x1 * p - y1 * q) (by omega)
  have j2 := ok_rat (q := y1 * p + x1 * q) (by omega)
  have j3 := ok_rat (q := x1 * r - y1 * s) (by omega)
  have j4 := ok_rat (q := y1 * r + x1 * s) (by omega)
  have j5 := ok_rat (q := (x1 * p - y1 * q) * (x1 * r - y1 * s)) (by omega)
  have j6 := ok_rat (q := (y1 * p + x1 * q) * (y1 * r + x1 * s)) (by omega)
  have j7 := ok_rat (q := (x1 * p - y1 * q) * (y1 * r + x1 * s)) (by omega)
  have j8 := ok_rat (q := (y1 * p + x1 * q) * (x1 * r - y1 * s)) (by omega)
  have j9 := ok_rat (q := p * r) (by omega)
  have j10 := ok_rat (q := q * s) (by omega)
  have j11 := ok_rat (q := p * s) (by omega)
  have j12 := ok_rat (q := q * r) (by omega)
  simp only [qv_rat, rat_eq_iff, i1, i2, i3, i4, j1, j2, j3, j4, j5, j6, j7, j8, j9, j10, j11, j12, w1, ox1, oy1, ox2, oy2, ox3, oy3, ox4, oy4, jx3, jy3, jx4, jy4, Bool.and_self, cond_true, cond_false]
  rw [dT hd, dT hc, dT e1, dT e2]
  rfl
theorem images_walk (b : Bool) (n d : BA) (c : Bool) (m e : BA) (b2 : Bool) (n2 d2 : BA) (c2 : Bool) (m2 e2 : BA) (b3 : Bool) (n3 d3 : BA) (c3 : Bool) (m3 e3 : BA) (b4 : Bool) (n4 d4 : BA) (c4 : Bool) (m4 e4 : BA) (W : World) : Calls Tryz.prog 4 #[.agg #[.bool b, .string n, .string d, .bool c, .string m, .string e], .agg #[.bool b2, .string n2, .string d2, .bool c2, .string m2, .string e2], .agg #[.bool b3, .string n3, .string d3, .bool c3, .string m3, .string e3], .agg #[.bool b4, .string n4, .string d4, .bool c4, .string m4, .string e4]] W fun e w' => e = .returned (.bool true) ∧ Below W.heap.size W w' :=
  law_walk CIm_ok loops_none (by kernel_rfl) (images_true b c b2 c2 b3 c3 b4 c4 n d m e n2 d2 m2 e2 n3 d3 m3 e3 n4 d4 m4 e4) W ⟨_, _, rfl, arg_pair _ _ b n d c m e, _, _, rfl, arg_pair _ _ b2 n2 d2 c2 m2 e2, _, _, rfl, arg_pair _ _ b3 n3 d3 c3 m3 e3, _, _, rfl, arg_pair _ _ b4 n4 d4 c4 m4 e4, rfl⟩
end
end Go.Proofs.YtnmnglcdoegbiaaGreat.L
