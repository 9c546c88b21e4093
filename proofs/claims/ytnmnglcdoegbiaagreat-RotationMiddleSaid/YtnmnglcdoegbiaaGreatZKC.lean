/- Laws of rotations, as trees: the group, the images. -/
import Derived.Test.YtnmnglcdoegbiaaGreatZKB
set_option linter.unusedVariables false
set_option linter.unusedSimpArgs false

/- Laws of rotations, as trees: the group, the images. -/
set_option linter.unusedVariables false
namespace Go.Proofs.YtnmnglcdoegbiaaGreat.L
open Go Go.V Go.RowKit Go.Proofs.YtnmnglcdoegbiaaGreat.Sp
open Go.Proofs (Tryz.prog)
noncomputable section
def CGr (Z : Qg) (K : Kg) : FuncId → TF := addC 21 (vThen Z K) (addC 12 (vBack Z K) (addC 14 (xKNone Z) (addC 15 (tKCheck K) (addC 27 (tKCheck K) (addC 11 tAwakeK noC)))))
end
end Go.Proofs.YtnmnglcdoegbiaaGreat.L

/- RotationGroup and RotationImages hold. -/
set_option linter.unusedVariables false
set_option linter.unusedSimpArgs false
namespace Go.Proofs.YtnmnglcdoegbiaaGreat.L
open Go Go.V Go.RowKit Go.Proofs.YtnmnglcdoegbiaaGreat.Sp Go.Proofs.YtnmnglcdoegbiaaGreat.F
open Go.Proofs (Tryz.prog)
noncomputable section
theorem CGr_ok : Meets Tryz.prog (CGr sq0 kg0) := ((((((meets_none _).add eAwakeK).add eRKCheck).add eKCheck).add eXNone).add eVBack).add eVThen
theorem ok40 {n d : BA} (h1 : ¬ (40 : Int) < n.size) (h2 : ¬ (40 : Int) < d.size) : ok6 n d = true := by
  unfold ok6
  rw [decide_eq_true (show n.size ≤ 1000000 by omega), decide_eq_true (show d.size ≤ 1000000 by omega)]; rfl
theorem sz40 (q : Rat) (h1 : ¬ (40 : Int) < (sq0.qs q).size) (h2 : ¬ (40 : Int) < (sq0.qd q).size) : szq q ≤ 40 := by
  have := szq_val (sq0.qn q) (sq0.qs q) (sq0.qd q)
  rw [qv_rat] at this
  omega
theorem arg_pair (B : Nat → Prop) (w : World) (b : Bool) (n d : BA) (c : Bool) (m e : BA) : (AV.agg [.val (.bool b), .val (.string n), .val (.string d), .val (.bool c), .val (.string m), .val (.string e)]).Rel Tryz.prog NoA B w NoD (.agg #[.bool b, .string n, .string d, .bool c, .string m, .string e]) := ⟨_, rfl, _, _, rfl, rfl, _, _, rfl, rfl, _, _, rfl, rfl, _, _, rfl, rfl, _, _, rfl, rfl, _, _, rfl, rfl, rfl⟩
end
end Go.Proofs.YtnmnglcdoegbiaaGreat.L

/- Laws of rotations, as trees: Compare, the middle, the corner. -/
set_option linter.unusedVariables false
namespace Go.Proofs.YtnmnglcdoegbiaaGreat.L
open Go Go.V Go.RowKit Go.Proofs.YtnmnglcdoegbiaaGreat.Sp
open Go.Proofs (Tryz.prog)
noncomputable section
def CMi (Z : Qg) (K : Kg) : FuncId → TF := addC 31 (vMiddle Z K) (addC 35 (vBetween Z K) (CGr Z K))
theorem middle_tree (Z : Qg) (K : Kg) (b c b2 c2 : Bool) (n d m e n2 d2 m2 e2 : BA) : letI q_1 := (K.mk1 (0 : Int) (0 : Int) (Z.qv b n d) (Z.qv c m e) (Z.qv b2 n2 d2) (Z.qv c2 m2 e2)); letI q_2 := (K.sel q_1 (K.m1 (Z.qv b n d) (Z.qv c m e) (Z.qv b2 n2 d2) (Z.qv c2 m2 e2))); letI q_3 := (K.sel q_1 (K.m2 (Z.qv b n d) (Z.qv c m e) (Z.qv b2 n2 d2) (Z.qv c2 m2 e2))); 
    (callA Tryz.prog ⟨CMi Z K, Kall, noL⟩ 10 10 6 [av6 b n d c m e, av6 b2 n2 d2 c2 m2 e2] = (bif decide ((40 : Int) < (↑(ByteArray.size n) : Int)) then some (.val (.bool true)) else (bif decide ((40 : Int) < (↑(ByteArray.size d) : Int)) then some (.val (.bool true)) else (bif decide ((40 : Int) < (↑(ByteArray.size m) : Int)) then some (.val (.bool true)) else (bif decide ((40 : Int) < (↑(ByteArray.size e) : Int)) then some (.val (.bool true)) else (bif ok6 n d && ok6 m e then (bif !decide (K.kc b n d c m e = (0 : Int)) then some (.val (.bool true)) else (bif decide ((40 : Int) < (↑(ByteArray.size n2) : Int)) then some (.val (.bool true)) else (bif decide ((40 : Int) < (↑(ByteArray.size d2) : Int)) then some (.val (.bool true)) else (bif decide ((40 : Int) < (↑(ByteArray.size m2) : Int)) then some (.val (.bool true)) else (bif decide ((40 : Int) < (↑(ByteArray.size e2) : Int)) then some (.val (.bool true)) else (bif ok6 n2 d2 && ok6 m2 e2 then (bif !decide (K.kc b2 n2 d2 c2 m2 e2 = (0 : Int)) then some (.val (.bool true)) else (bif ok5 n d && ok5 m e && decide (K.kc b n d c m e = (0 : Int)) && (ok5 n2 d2 && ok5 m2 e2 && decide (K.kc b2 n2 d2 c2 m2 e2 = (0 : Int))) then (bif bif false then !(b == b2 && (strEq n n2 && (strEq d d2 && true)) && (c == c2 && (strEq m m2 && (strEq e e2 && true)) && true)) else b == b2 && (strEq n n2 && (strEq d d2 && true)) && (c == c2 && (strEq m m2 && (strEq e e2 && true)) && true) then (bif decide (K.mk1 (0 : Int) (0 : Int) (Z.qv b n d) (Z.qv c m e) (Z.qv b2 n2 d2) (Z.qv c2 m2 e2) = (12 : Int)) then some (.val (.bool true)) else some (.val (.bool false))) else (bif decide (K.mk1 (0 : Int) (0 : Int) (Z.qv b n d) (Z.qv c m e) (Z.qv b2 n2 d2) (Z.qv c2 m2 e2) = (0 : Int)) then (bif ok6 (Z.qs q_2) (Z.qd q_2) && ok6 (Z.qs q_3) (Z.qd q_3) then (bif decide (K.kc (Z.qn q_2) (Z.qs q_2) (Z.qd q_2) (Z.qn q_3) (Z.qs q_3) (Z.qd q_3) = (0 : Int)) then (bif ok5 n d && ok5 m e && decide (K.kc b n d c m e = (0 : Int)) && (ok5 (Z.qs q_2) (Z.qd q_2) && ok5 (Z.qs q_3) (Z.qd q_3) && decide (K.kc (Z.qn q_2) (Z.qs q_2) (Z.qd q_2) (Z.qn q_3) (Z.qs q_3) (Z.qd q_3) = (0 : Int))) && (ok5 n2 d2 && ok5 m2 e2 && decide (K.kc b2 n2 d2 c2 m2 e2 = (0 : Int))) then (bif K.bt (Z.qv b n d) (Z.qv c m e) (Z.qv (Z.qn q_2) (Z.qs q_2) (Z.qd q_2)) (Z.qv (Z.qn q_3) (Z.qs q_3) (Z.qd q_3)) (Z.qv b2 n2 d2) (Z.qv c2 m2 e2) then (bif bif true then !(Z.qn q_2 == b && (strEq (Z.qs q_2) n && (strEq (Z.qd q_2) d && true)) && (Z.qn q_3 == c && (strEq (Z.qs q_3) m && (strEq (Z.qd q_3) e && true)) && true)) else Z.qn q_2 == b && (strEq (Z.qs q_2) n && (strEq (Z.qd q_2) d && true)) && (Z.qn q_3 == c && (strEq (Z.qs q_3) m && (strEq (Z.qd q_3) e && true)) && true) then (bif bif true then !(Z.qn q_2 == b2 && (strEq (Z.qs q_2) n2 && (strEq (Z.qd q_2) d2 && true)) && (Z.qn q_3 == c2 && (strEq (Z.qs q_3) m2 && (strEq (Z.qd q_3) e2 && true)) && true)) else Z.qn q_2 == b2 && (strEq (Z.qs q_2) n2 && (strEq (Z.qd q_2) d2 && true)) && (Z.qn q_3 == c2 && (strEq (Z.qs q_3) m2 && (strEq (Z.qd q_3) e2 && true)) && true) then some (.val (.bool true)) else some (.val (.bool false))) else some (.val (.bool false))) else some (.val (.bool false))) else none) else some (.val (.bool false))) else none) else some (.val (.bool false)))) else none)) else none)))))) else none)))))) := by kernel_rfl
end
end Go.Proofs.YtnmnglcdoegbiaaGreat.L

/- The size of the middle. -/
set_option linter.unusedVariables false
set_option linter.unusedSimpArgs false
namespace Go.Proofs.YtnmnglcdoegbiaaGreat.L
open Go Go.V Go.RowKit Go.Proofs.YtnmnglcdoegbiaaGreat.Sp Go.Proofs.YtnmnglcdoegbiaaGreat.F
open Go.Proofs (Tryz.prog)
noncomputable section
theorem szq_mid {x y u v : Rat} (h1 : x * x + y * y = 1) (h2 : u * u + v * v = 1) (hn : ¬ (x = u ∧ y = v)) (zx : szq x ≤ 40) (zy : szq y ≤ 40) (zu : szq u ≤ 40) (zv : szq v ≤ 40) : szq (m1n x y u v) ≤ 10000 ∧ szq (m2n x y u v) ≤ 10000 := by
  have uD := unit_d h1 h2
  have nD : d1 x y u v ≠ 1 := fun h => hn ((d_one h1 h2).1 h)
  have s1 := szq_d1 x y u v
  have s2 := szq_d2 x y u v
  have b1 : d1 x y u v = x * u - -y * v := rfl
  have b2 : d2 x y u v = -y * u + x * v := rfl
  rw [← b1] at s1
  rw [← b2] at s2
  have s5 := szq_neg y
  unfold m1n m2n
  by_cases hh : hfn (d1 x y u v) (d2 x y u v) = 1
  · rw [if_pos hh, if_pos hh]
    omega
  · rw [if_neg hh, if_neg hh]
    have hy := hf_pos uD nD hh
    obtain ⟨_, nT, tp, _⟩ := tan_ct uD hy
    have s9 := szq_tanh (d1 x y u v) (d2 x y u v)
    unfold mdl
    generalize tanh (d1 x y u v) (d2 x y u v) = t at *
    have s10 := szq_three
    have s11 := szq_div t 3
    obtain ⟨_, _, s13⟩ := simp2_in (x := t / 3) (y := t / 3 + t / 3) (by grind) (by grind)
    obtain ⟨s14, s15⟩ := szq_of (simp2 (t / 3) (t / 3 + t / 3))
    have s16 := szq_t1 x y (of1 (simp2 (t / 3) (t / 3 + t / 3))) (of2 (simp2 (t / 3) (t / 3 + t / 3)))
    have s17 := szq_t2 x y (of1 (simp2 (t / 3) (t / 3 + t / 3))) (of2 (simp2 (t / 3) (t / 3 + t / 3)))
    omega
theorem ok5_40 {n d : BA} (h1 : ¬ (40 : Int) < n.size) (h2 : ¬ (40 : Int) < d.size) : ok5 n d = true := by
  unfold ok5
  rw [decide_eq_true (show n.size ≤ 10000 by omega), decide_eq_true (show d.size ≤ 10000 by omega)]; rfl
end
end Go.Proofs.YtnmnglcdoegbiaaGreat.L

/- RotationMiddle holds. -/
set_option linter.unusedVariables false
set_option linter.unusedSimpArgs false
namespace Go.Proofs.YtnmnglcdoegbiaaGreat.L
open Go Go.V Go.RowKit Go.Proofs.YtnmnglcdoegbiaaGreat.Sp Go.Proofs.YtnmnglcdoegbiaaGreat.F
open Go.Proofs (Tryz.prog)
noncomputable section
theorem CMi_ok : Meets Tryz.prog (CMi sq0 kg0) := (CGr_ok.add eVBetween).add eVMiddle
theorem middle_true (b c b2 c2 : Bool) (n d m e n2 d2 m2 e2 : BA) : callA Tryz.prog ⟨CMi sq0 kg0, Kall, noL⟩ 10 10 6 [av6 b n d c m e, av6 b2 n2 d2 c2 m2 e2] = some (.val (.bool true)) := by
  rw [middle_tree]
  by_cases an1 : (40 : Int) < n.size
  · rw [dT an1]; rfl
  by_cases ad1 : (40 : Int) < d.size
  · rw [dF an1, dT ad1]; rfl
  by_cases am1 : (40 : Int) < m.size
  · rw [dF an1, dF ad1, dT am1]; rfl
  by_cases ae1 : (40 : Int) < e.size
  · rw [dF an1, dF ad1, dF am1, dT ae1]; rfl
  have ox1 := ok40 an1 ad1
  have oy1 := ok40 am1 ae1
  by_cases k1 : kg0.kc b n d c m e = 0
  case neg => rw [dF an1, dF ad1, dF am1, dF ae1, ox1, oy1, dF k1]; rfl
  by_cases an2 : (40 : Int) < n2.size
  · rw [dF an1, dF ad1, dF am1, dF ae1, ox1, oy1, dT k1, dT an2]; rfl
  by_cases ad2 : (40 : Int) < d2.size
  · rw [dF an1, dF ad1, dF am1, dF ae1, ox1, oy1, dT k1, dF an2, dT ad2]; rfl
  by_cases am2 : (40 : Int) < m2.size
  · rw [dF an1, dF ad1, dF am1, dF ae1, ox1, oy1, dT k1, dF an2, dF ad2, dT am2]; rfl
  by_cases ae2 : (40 : Int) < e2.size
  · rw [dF an1, dF ad1, dF am1, dF ae1, ox1, oy1, dT k1, dF an2, dF ad2, dF am2, dT ae2]; rfl
  have ox2 := ok40 an2 ad2
  have oy2 := ok40 am2 ae2
  by_cases k2 : kg0.kc b2 n2 d2 c2 m2 e2 = 0
  case neg => rw [dF an1, dF ad1, dF am1, dF ae1, ox1, oy1, dT k1, dF an2, dF ad2, dF am2, dF ae2, ox2, oy2, dF k2]; rfl
  rw [dF an1, dF ad1, dF am1, dF ae1, ox1, oy1, dT k1, dF an2, dF ad2, dF am2, dF ae2, ox2, oy2, dT k2]
  obtain ⟨x1, y1, u1, rfl, rfl, rfl, rfl, rfl, rfl⟩ := kc_canon k1
  have zx1 := sz40 x1 an1 ad1
  have zy1 := sz40 y1 am1 ae1
  obtain ⟨x2, y2, u2, rfl, rfl, rfl, rfl, rfl, rfl⟩ := kc_canon k2
  have zx2 := sz40 x2 an2 ad2
  have zy2 := sz40 y2 am2 ae2
  have p1 := ok5_40 an1 ad1
  have p2 := ok5_40 am1 ae1
  have p3 := ok5_40 an2 ad2
  have p4 := ok5_40 am2 ae2
  have hm1 : kg0.m1 x1 y1 x2 y2 = m1n x1 y1 x2 y2 := rfl
  have hm2 : kg0.m2 x1 y1 x2 y2 = m2n x1 y1 x2 y2 := rfl
  have hb : ∀ x y p q u v, kg0.bt x y p q u v = btn x y p q u v := fun x y p q u v => rfl
  simp only [qv_rat, rat_eq_iff, p1, p2, p3, p4, hm1, hm2, hb, Bool.and_self, cond_true, cond_false]
  by_cases hn : x1 = x2 ∧ y1 = y2
  · rw [dT hn.1, dT hn.2, dT (show kg0.mk1 0 0 x1 y1 x2 y2 = 12 by rw [mk00, if_pos hn])]; rfl
  · have mk : kg0.mk1 0 0 x1 y1 x2 y2 = 0 := by rw [mk00, if_neg hn]
    obtain ⟨M1, M2, M3, M4⟩ := mid_ok u1 u2 hn
    obtain ⟨z1, z2⟩ := szq_mid u1 u2 hn zx1 zy1 zx2 zy2
    simp only [mk, sel_0]
    rw [and_no hn, ok6_rat (q := m1n x1 y1 x2 y2) (by omega), ok6_rat (q := m2n x1 y1 x2 y2) (by omega), ok5_rat z1, ok5_rat z2, kcu M1, M2, and_no M3, and_no M4]
    rfl
theorem middle_walk (b : Bool) (n d : BA) (c : Bool) (m e : BA) (b2 : Bool) (n2 d2 : BA) (c2 : Bool) (m2 e2 : BA) (W : World) : Calls Tryz.prog 6 #[.agg #[.bool b, .string n, .string d, .bool c, .string m, .string e], .agg #[.bool b2, .string n2, .string d2, .bool c2, .string m2, .string e2]] W fun e w' => e = .returned (.bool true) ∧ Below W.heap.size W w' :=
  law_walk CMi_ok loops_none (by kernel_rfl) (middle_true b c b2 c2 n d m e n2 d2 m2 e2) W ⟨_, _, rfl, arg_pair _ _ b n d c m e, _, _, rfl, arg_pair _ _ b2 n2 d2 c2 m2 e2, rfl⟩
end
end Go.Proofs.YtnmnglcdoegbiaaGreat.L
