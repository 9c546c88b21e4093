/- Laws of rotations, as trees: the group, the images. -/
import Derived.Test.YtnmnglcdoegbiaaGreatZKB
set_option linter.unusedVariables false
set_option linter.unusedSimpArgs false

/- Laws of rotations, as trees: the group, the images. -/
set_option linter.unusedVariables false
namespace Go.Proofs.YtnmnglcdoegbiaaGreat.L
open Go Go.V Go.RowKit Go.Proofs.YtnmnglcdoegbiaaGreat.Sp
open Go.Proofs (Tryz.prog)
noncomputable section
def CGr (Z : Qg) (K : Kg) : FuncId → TF := addC 21 (vThen Z K) (addC 12 (vBack Z K) (addC 14 (xKNone Z) (addC 15 (tKCheck K) (addC 27 (tKCheck K) (addC 11 tAwakeK noC)))))
theorem group_tree (Z : Qg) (K : Kg) (b c b2 c2 b3 c3 : Bool) (n d m e n2 d2 m2 e2 n3 d3 m3 e3 : BA) : letI q_1 := (Z.qv b n d * Z.qv b2 n2 d2 - Z.qv c m e * Z.qv c2 m2 e2); letI q_2 := (Z.qv c m e * Z.qv b2 n2 d2 + Z.qv b n d * Z.qv c2 m2 e2); letI q_3 := (Z.qv b2 n2 d2 * Z.qv b3 n3 d3 - Z.qv c2 m2 e2 * Z.qv c3 m3 e3); letI q_4 := (Z.qv c2 m2 e2 * Z.qv b3 n3 d3 + Z.qv b2 n2 d2 * Z.qv c3 m3 e3); letI q_5 := (Z.qv b n d * Z.qv (Z.qn (Z.qv b n d)) (Z.qs (Z.qv b n d)) (Z.qd (Z.qv b n d)) - Z.qv c m e * Z.qv (Z.qn (-Z.qv c m e)) (Z.qs (-Z.qv c m e)) (Z.qd (-Z.qv c m e))); letI q_6 := (Z.qv c m e * Z.qv (Z.qn (Z.qv b n d)) (Z.qs (Z.qv b n d)) (Z.qd (Z.qv b n d)) + Z.qv b n d * Z.qv (Z.qn (-Z.qv c m e)) (Z.qs (-Z.qv c m e)) (Z.qd (-Z.qv c m e))); letI q_7 := (Z.qv b n d * Z.qv (Z.qn (1 : Rat)) (Z.qs (1 : Rat)) (Z.qd (1 : Rat)) - Z.qv c m e * Z.qv (Z.qn (0 : Rat)) (Z.qs (0 : Rat)) (Z.qd (0 : Rat))); letI q_8 := (Z.qv c m e * Z.qv (Z.qn (1 : Rat)) (Z.qs (1 : Rat)) (Z.qd (1 : Rat)) + Z.qv b n d * Z.qv (Z.qn (0 : Rat)) (Z.qs (0 : Rat)) (Z.qd (0 : Rat))); letI q_9 := (Z.qv (Z.qn q_1) (Z.qs q_1) (Z.qd q_1) * Z.qv b3 n3 d3 - Z.qv (Z.qn q_2) (Z.qs q_2) (Z.qd q_2) * Z.qv c3 m3 e3); letI q_10 := (Z.qv (Z.qn q_2) (Z.qs q_2) (Z.qd q_2) * Z.qv b3 n3 d3 + Z.qv (Z.qn q_1) (Z.qs q_1) (Z.qd q_1) * Z.qv c3 m3 e3); letI q_11 := (Z.qv b n d * Z.qv (Z.qn q_3) (Z.qs q_3) (Z.qd q_3) - Z.qv c m e * Z.qv (Z.qn q_4) (Z.qs q_4) (Z.qd q_4)); letI q_12 := (Z.qv c m e * Z.qv (Z.qn q_3) (Z.qs q_3) (Z.qd q_3) + Z.qv b n d * Z.qv (Z.qn q_4) (Z.qs q_4) (Z.qd q_4)); letI q_13 := (Z.qv b2 n2 d2 * Z.qv b n d - Z.qv c2 m2 e2 * Z.qv c m e); letI q_14 := (Z.qv c2 m2 e2 * Z.qv b n d + Z.qv b2 n2 d2 * Z.qv c m e); letI q_15 := (ok6 n2 d2 && ok6 m2 e2 && decide (K.kc b2 n2 d2 c2 m2 e2 = (0 : Int))); 
    (callA Tryz.prog ⟨CGr Z K, Kall, noL⟩ 10 10 3 [av6 b n d c m e, av6 b2 n2 d2 c2 m2 e2, av6 b3 n3 d3 c3 m3 e3] = (bif decide ((40 : Int) < (↑(ByteArray.size n) : Int)) then some (.val (.bool true)) else (bif decide ((40 : Int) < (↑(ByteArray.size d) : Int)) then some (.val (.bool true)) else (bif decide ((40 : Int) < (↑(ByteArray.size m) : Int)) then some (.val (.bool true)) else (bif decide ((40 : Int) < (↑(ByteArray.size e) : Int)) then some (.val (.bool true)) else (bif ok6 n d && ok6 m e then (bif !decide (K.kc b n d c m e = (0 : Int)) then some (.val (.bool true)) else (bif decide ((40 : Int) < (↑(ByteArray.size n2) : Int)) then some (.val (.bool true)) else (bif decide ((40 : Int) < (↑(ByteArray.size d2) : Int)) then some (.val (.bool true)) else (bif decide ((40 : Int) < (↑(ByteArray.size m2) : Int)) then some (.val (.bool true)) else (bif decide ((40 : Int) < (↑(ByteArray.size e2) : Int)) then some (.val (.bool true)) else (bif ok6 n2 d2 && ok6 m2 e2 then (bif !decide (K.kc b2 n2 d2 c2 m2 e2 = (0 : Int)) then some (.val (.bool true)) else (bif decide ((40 : Int) < (↑(ByteArray.size n3) : Int)) then some (.val (.bool true)) else (bif decide ((40 : Int) < (↑(ByteArray.size d3) : Int)) then some (.val (.bool true)) else (bif decide ((40 : Int) < (↑(ByteArray.size m3) : Int)) then some (.val (.bool true)) else (bif decide ((40 : Int) < (↑(ByteArray.size e3) : Int)) then some (.val (.bool true)) else (bif ok6 n3 d3 && ok6 m3 e3 then (bif !decide (K.kc b3 n3 d3 c3 m3 e3 = (0 : Int)) then some (.val (.bool true)) else (bif ok6 n d && ok6 m e && decide (K.kc b n d c m e = (0 : Int)) then (bif ok6 n d && ok6 m e && decide (K.kc b n d c m e = (0 : Int)) && q_15 then (bif ok6 (Z.qs q_1) (Z.qd q_1) && ok6 (Z.qs q_2) (Z.qd q_2) && decide (K.kc (Z.qn q_1) (Z.qs q_1) (Z.qd q_1) (Z.qn q_2) (Z.qs q_2) (Z.qd q_2) = (0 : Int)) && (ok6 n3 d3 && ok6 m3 e3 && decide (K.kc b3 n3 d3 c3 m3 e3 = (0 : Int))) then (bif ok6 n2 d2 && ok6 m2 e2 && decide (K.kc b2 n2 d2 c2 m2 e2 = (0 : Int)) && (ok6 n3 d3 && ok6 m3 e3 && decide (K.kc b3 n3 d3 c3 m3 e3 = (0 : Int))) then (bif ok6 n d && ok6 m e && decide (K.kc b n d c m e = (0 : Int)) && (ok6 (Z.qs q_3) (Z.qd q_3) && ok6 (Z.qs q_4) (Z.qd q_4) && decide (K.kc (Z.qn q_3) (Z.qs q_3) (Z.qd q_3) (Z.qn q_4) (Z.qs q_4) (Z.qd q_4) = (0 : Int))) then (bif bif false then !(Z.qn q_9 == Z.qn q_11 && (strEq (Z.qs q_9) (Z.qs q_11) && (strEq (Z.qd q_9) (Z.qd q_11) && true)) && (Z.qn q_10 == Z.qn q_12 && (strEq (Z.qs q_10) (Z.qs q_12) && (strEq (Z.qd q_10) (Z.qd q_12) && true)) && true)) else Z.qn q_9 == Z.qn q_11 && (strEq (Z.qs q_9) (Z.qs q_11) && (strEq (Z.qd q_9) (Z.qd q_11) && true)) && (Z.qn q_10 == Z.qn q_12 && (strEq (Z.qs q_10) (Z.qs q_12) && (strEq (Z.qd q_10) (Z.qd q_12) && true)) && true) then (bif ok6 n d && ok6 m e && decide (K.kc b n d c m e = (0 : Int)) && q_15 then (bif ok6 n2 d2 && ok6 m2 e2 && decide (K.kc b2 n2 d2 c2 m2 e2 = (0 : Int)) && (ok6 n d && ok6 m e && decide (K.kc b n d c m e = (0 : Int))) then (bif bif false then !(Z.qn q_1 == Z.qn q_13 && (strEq (Z.qs q_1) (Z.qs q_13) && (strEq (Z.qd q_1) (Z.qd q_13) && true)) && (Z.qn q_2 == Z.qn q_14 && (strEq (Z.qs q_2) (Z.qs q_14) && (strEq (Z.qd q_2) (Z.qd q_14) && true)) && true)) else Z.qn q_1 == Z.qn q_13 && (strEq (Z.qs q_1) (Z.qs q_13) && (strEq (Z.qd q_1) (Z.qd q_13) && true)) && (Z.qn q_2 == Z.qn q_14 && (strEq (Z.qs q_2) (Z.qs q_14) && (strEq (Z.qd q_2) (Z.qd q_14) && true)) && true) then (bif ok6 n d && ok6 m e && decide (K.kc b n d c m e = (0 : Int)) && (ok6 (Z.qs (1 : Rat)) (Z.qd (1 : Rat)) && ok6 (Z.qs (0 : Rat)) (Z.qd (0 : Rat)) && decide (K.kc (Z.qn (1 : Rat)) (Z.qs (1 : Rat)) (Z.qd (1 : Rat)) (Z.qn (0 : Rat)) (Z.qs (0 : Rat)) (Z.qd (0 : Rat)) = (0 : Int))) then (bif bif false then !(Z.qn q_7 == b && (strEq (Z.qs q_7) n && (strEq (Z.qd q_7) d && true)) && (Z.qn q_8 == c && (strEq (Z.qs q_8) m && (strEq (Z.qd q_8) e && true)) && true)) else Z.qn q_7 == b && (strEq (Z.qs q_7) n && (strEq (Z.qd q_7) d && true)) && (Z.qn q_8 == c && (strEq (Z.qs q_8) m && (strEq (Z.qd q_8) e && true)) && true) then (bif ok6 n d && ok6 m e && decide (K.kc b n d c m e = (0 : Int)) && (ok6 (Z.qs (Z.qv b n d)) (Z.qd (Z.qv b n d)) && ok6 (Z.qs (-Z.qv c m e)) (Z.qd (-Z.qv c m e)) && decide (K.kc (Z.qn (Z.qv b n d)) (Z.qs (Z.qv b n d)) (Z.qd (Z.qv b n d)) (Z.qn (-Z.qv c m e)) (Z.qs (-Z.qv c m e)) (Z.qd (-Z.qv c m e)) = (0 : Int))) then (bif bif false then !(Z.qn q_5 == Z.qn (1 : Rat) && (strEq (Z.qs q_5) (Z.qs (1 : Rat)) && (strEq (Z.qd q_5) (Z.qd (1 : Rat)) && true)) && (Z.qn q_6 == Z.qn (0 : Rat) && (strEq (Z.qs q_6) (Z.qs (0 : Rat)) && (strEq (Z.qd q_6) (Z.qd (0 : Rat)) && true)) && true)) else Z.qn q_5 == Z.qn (1 : Rat) && (strEq (Z.qs q_5) (Z.qs (1 : Rat)) && (strEq (Z.qd q_5) (Z.qd (1 : Rat)) && true)) && (Z.qn q_6 == Z.qn (0 : Rat) && (strEq (Z.qs q_6) (Z.qs (0 : Rat)) && (strEq (Z.qd q_6) (Z.qd (0 : Rat)) && true)) && true) then (bif ok6 n d && ok6 m e && decide (K.kc b n d c m e = (0 : Int)) && q_15 then (bif ok6 (Z.qs q_1) (Z.qd q_1) && ok6 (Z.qs q_2) (Z.qd q_2) then (bif decide (K.kc (Z.qn q_1) (Z.qs q_1) (Z.qd q_1) (Z.qn q_2) (Z.qs q_2) (Z.qd q_2) = (0 : Int)) then some (.val (.bool true)) else some (.val (.bool false))) else none) else none) else some (.val (.bool false))) else none) else some (.val (.bool false))) else none) else some (.val (.bool false))) else none) else none) else some (.val (.bool false))) else none) else none) else none) else none) else none)) else none)))))) else none)))))) else none)))))) := by kernel_rfl
end
end Go.Proofs.YtnmnglcdoegbiaaGreat.L

/- RotationGroup and RotationImages hold. -/
set_option linter.unusedVariables false
set_option linter.unusedSimpArgs false
namespace Go.Proofs.YtnmnglcdoegbiaaGreat.L
open Go Go.V Go.RowKit Go.Proofs.YtnmnglcdoegbiaaGreat.Sp Go.Proofs.YtnmnglcdoegbiaaGreat.F
open Go.Proofs (Tryz.prog)
noncomputable section
theorem CGr_ok : Meets Tryz.prog (CGr sq0 kg0) := ((((((meets_none _).add eAwakeK).add eRKCheck).add eKCheck).add eXNone).add eVBack).add eVThen
theorem ok40 {n d : BA} (h1 : ¬ (40 : Int) < n.size) (h2 : ¬ (40 : Int) < d.size) : ok6 n d = true := by
  unfold ok6
  rw [decide_eq_true (show n.size ≤ 1000000 by omega), decide_eq_true (show d.size ≤ 1000000 by omega)]; rfl
theorem sz40 (q : Rat) (h1 : ¬ (40 : Int) < (sq0.qs q).size) (h2 : ¬ (40 : Int) < (sq0.qd q).size) : szq q ≤ 40 := by
  have := szq_val (sq0.qn q) (sq0.qs q) (sq0.qd q)
  rw [qv_rat] at this
  omega
theorem group_true (b c b2 c2 b3 c3 : Bool) (n d m e n2 d2 m2 e2 n3 d3 m3 e3 : BA) : callA Tryz.prog ⟨CGr sq0 kg0, Kall, noL⟩ 10 10 3 [av6 b n d c m e, av6 b2 n2 d2 c2 m2 e2, av6 b3 n3 d3 c3 m3 e3] = some (.val (.bool true)) := by
  rw [group_tree]
  by_cases a1 : (40 : Int) < n.size
  · rw [dT a1]; rfl
  by_cases a2 : (40 : Int) < d.size
  · rw [dF a1, dT a2]; rfl
  by_cases a3 : (40 : Int) < m.size
  · rw [dF a1, dF a2, dT a3]; rfl
  by_cases a4 : (40 : Int) < e.size
  · rw [dF a1, dF a2, dF a3, dT a4]; rfl
  have o1 := ok40 a1 a2
  have o2 := ok40 a3 a4
  by_cases k1 : kg0.kc b n d c m e = 0
  case neg => rw [dF a1, dF a2, dF a3, dF a4, o1, o2, dF k1]; rfl
  by_cases b1 : (40 : Int) < n2.size
  · rw [dF a1, dF a2, dF a3, dF a4, o1, o2, dT k1, dT b1]; rfl
  by_cases b2' : (40 : Int) < d2.size
  · rw [dF a1, dF a2, dF a3, dF a4, o1, o2, dT k1, dF b1, dT b2']; rfl
  by_cases b3' : (40 : Int) < m2.size
  · rw [dF a1, dF a2, dF a3, dF a4, o1, o2, dT k1, dF b1, dF b2', dT b3']; rfl
  by_cases b4 : (40 : Int) < e2.size
  · rw [dF a1, dF a2, dF a3, dF a4, o1, o2, dT k1, dF b1, dF b2', dF b3', dT b4]; rfl
  have o3 := ok40 b1 b2'
  have o4 := ok40 b3' b4
  by_cases k2 : kg0.kc b2 n2 d2 c2 m2 e2 = 0
  case neg => rw [dF a1, dF a2, dF a3, dF a4, o1, o2, dT k1, dF b1, dF b2', dF b3', dF b4, o3, o4, dF k2]; rfl
  by_cases c1 : (40 : Int) < n3.size
  · rw [dF a1, dF a2, dF a3, dF a4, o1, o2, dT k1, dF b1, dF b2', dF b3', dF b4, o3, o4, dT k2, dT c1]; rfl
  by_cases c2' : (40 : Int) < d3.size
  · rw [dF a1, dF a2, dF a3, dF a4, o1, o2, dT k1, dF b1, dF b2', dF b3', dF b4, o3, o4, dT k2, dF c1, dT c2']; rfl
  by_cases c3' : (40 : Int) < m3.size
  · rw [dF a1, dF a2, dF a3, dF a4, o1, o2, dT k1, dF b1, dF b2', dF b3', dF b4, o3, o4, dT k2, dF c1, dF c2', dT c3']; rfl
  by_cases c4 : (40 : Int) < e3.size
  · rw [dF a1, dF a2, dF a3, dF a4, o1, o2, dT k1, dF b1, dF b2', dF b3', dF b4, o3, o4, dT k2, dF c1, dF c2', dF c3', dT c4]; rfl
  have o5 := ok40 c1 c2'
  have o6 := ok40 c3' c4
  by_cases k3 : kg0.kc b3 n3 d3 c3 m3 e3 = 0
  case neg => rw [dF a1, dF a2, dF a3, dF a4, o1, o2, dT k1, dF b1, dF b2', dF b3', dF b4, o3, o4, dT k2, dF c1, dF c2', dF c3', dF c4, o5, o6, dF k3]; rfl
  rw [dF a1, dF a2, dF a3, dF a4, o1, o2, dT k1, dF b1, dF b2', dF b3', dF b4, o3, o4, dT k2, dF c1, dF c2', dF c3', dF c4, o5, o6, dT k3]
  obtain ⟨x, y, u1, rfl, rfl, rfl, rfl, rfl, rfl⟩ := kc_canon k1
  obtain ⟨u, v, u2, rfl, rfl, rfl, rfl, rfl, rfl⟩ := kc_canon k2
  obtain ⟨p, q, u3, rfl, rfl, rfl, rfl, rfl, rfl⟩ := kc_canon k3
  have z1 := sz40 x a1 a2
  have z2 := sz40 y a3 a4
  have z3 := sz40 u b1 b2'
  have z4 := sz40 v b3' b4
  have z5 := sz40 p c1 c2'
  have z6 := sz40 q c3' c4
  have s1 := szq_t1 x y u v
  have s2 := szq_t2 x y u v
  have s3 := szq_t1 u v p q
  have s4 := szq_t2 u v p q
  have s5 := szq_neg y
  have s6 := szq_one
  have s7 := szq_zero
  have i1 := ok6_rat (q := x * u - y * v) (by omega)
  have i2 := ok6_rat (q := y * u + x * v) (by omega)
  have i3 := ok6_rat (q := u * p - v * q) (by omega)
  have i4 := ok6_rat (q := v * p + u * q) (by omega)
  have i5 := ok6_rat (q := -y) (by omega)
  have i6 := ok6_rat (q := 1) (by omega)
  have i7 := ok6_rat (q := 0) (by omega)
  have w1 := kcu (unit_then u1 u2)
  have w2 := kcu (unit_then u2 u3)
  have w3 := kcu (x := 1) (y := 0) (by decide +kernel)
  have w4 := kcu (unit_back u1)
  simp only [qv_rat, rat_eq_iff, i1, i2, i3, i4, i5, i6, i7, w1, w2, w3, w4, Bool.and_self, cond_true, cond_false, o1, o2]
  rw [dT (show (x * u - y * v) * p - (y * u + x * v) * q = x * (u * p - v * q) - y * (v * p + u * q) by grind),
    dT (show (y * u + x * v) * p + (x * u - y * v) * q = y * (u * p - v * q) + x * (v * p + u * q) by grind),
    dT (show x * u - y * v = u * x - v * y by grind), dT (show y * u + x * v = v * x + u * y by grind),
    dT (show x * 1 - y * 0 = x by grind), dT (show y * 1 + x * 0 = y by grind), dT (show x * x - y * -y = 1 by grind), dT (show y * x + x * -y = 0 by grind)]
  rfl
theorem arg_pair (B : Nat → Prop) (w : World) (b : Bool) (n d : BA) (c : Bool) (m e : BA) : (AV.agg [.val (.bool b), .val (.string n), .val (.string d), .val (.bool c), .val (.string m), .val (.string e)]).Rel Tryz.prog NoA B w NoD (.agg #[.bool b, .string n, .string d, .bool c, .string m, .string e]) := ⟨_, rfl, _, _, rfl, rfl, _, _, rfl, rfl, _, _, rfl, rfl, _, _, rfl, rfl, _, _, rfl, rfl, _, _, rfl, rfl, rfl⟩
theorem group_walk (b : Bool) (n d : BA) (c : Bool) (m e : BA) (b2 : Bool) (n2 d2 : BA) (c2 : Bool) (m2 e2 : BA) (b3 : Bool) (n3 d3 : BA) (c3 : Bool) (m3 e3 : BA) (W : World) : Calls Tryz.prog 3 #[.agg #[.bool b, .string n, .string d, .bool c, .string m, .string e], .agg #[.bool b2, .string n2, .string d2, .bool c2, .string m2, .string e2], .agg #[.bool b3, .string n3, .string d3, .bool c3, .string m3, .string e3]] W fun e w' => e = .returned (.bool true) ∧ Below W.heap.size W w' :=
  law_walk CGr_ok loops_none (by kernel_rfl) (group_true b c b2 c2 b3 c3 n d m e n2 d2 m2 e2 n3 d3 m3 e3) W ⟨_, _, rfl, arg_pair _ _ b n d c m e, _, _, rfl, arg_pair _ _ b2 n2 d2 c2 m2 e2, _, _, rfl, arg_pair _ _ b3 n3 d3 c3 m3 e3, rfl⟩
end
end Go.Proofs.YtnmnglcdoegbiaaGreat.L
