/- Laws of rotations, as trees: the group, the images. -/
import Derived.Test.YtnmnglcdoegbiaaGreatZKB
set_option linter.unusedVariables false
set_option linter.unusedSimpArgs false

/- Laws of rotations, as trees: the group, the images. -/
set_option linter.unusedVariables false
namespace Go.Proofs.YtnmnglcdoegbiaaGreat.L
open Go Go.V Go.RowKit Go.Proofs.YtnmnglcdoegbiaaGreat.Sp
open Go.Proofs (Tryz.prog)
noncomputable section
def CGr (Z : Qg) (K : Kg) : FuncId → TF := addC 21 (vThen Z K) (addC 12 (vBack Z K) (addC 14 (xKNone Z) (addC 15 (tKCheck K) (addC 27 (tKCheck K) (addC 11 tAwakeK noC)))))
end
end Go.Proofs.YtnmnglcdoegbiaaGreat.L

/- RotationGroup and RotationImages hold. -/
set_option linter.unusedVariables false
set_option linter.unusedSimpArgs false
namespace Go.Proofs.YtnmnglcdoegbiaaGreat.L
open Go Go.V Go.RowKit Go.Proofs.YtnmnglcdoegbiaaGreat.Sp Go.Proofs.YtnmnglcdoegbiaaGreat.F
open Go.Proofs (Tryz.prog)
noncomputable section
theorem CGr_ok : Meets Tryz.prog (CGr sq0 kg0) := ((((((meets_none _).add eAwakeK).add eRKCheck).add eKCheck).add eXNone).add eVBack).add eVThen
theorem ok40 {n d : BA} (h1 : ¬ (40 : Int) < n.size) (h2 : ¬ (40 : Int) < d.size) : ok6 n d = true := by
  unfold ok6
  rw [decide_eq_true (show n.size ≤ 1000000 by omega), decide_eq_true (show d.size ≤ 1000000 by omega)]; rfl
theorem sz40 (q : Rat) (h1 : ¬ (40 : Int) < (sq0.qs q).size) (h2 : ¬ (40 : Int) < (sq0.qd q).size) : szq q ≤ 40 := by
  have := szq_val (sq0.qn q) (sq0.qs q) (sq0.qd q)
  rw [qv_rat] at this
  omega
theorem arg_pair (B : Nat → Prop) (w : World) (b : Bool) (n d : BA) (c : Bool) (m e : BA) : (AV.agg [.val (.bool b), .val (.string n), .val (.string d), .val (.bool c), .val (.string m), .val (.string e)]).Rel Tryz.prog NoA B w NoD (.agg #[.bool b, .string n, .string d, .bool c, .string m, .string e]) := ⟨_, rfl, _, _, rfl, rfl, _, _, rfl, rfl, _, _, rfl, rfl, _, _, rfl, rfl, _, _, rfl, rfl, _, _, rfl, rfl, rfl⟩
end
end Go.Proofs.YtnmnglcdoegbiaaGreat.L

/- Laws of rotations, as trees: Compare, the middle, the corner. -/
set_option linter.unusedVariables false
namespace Go.Proofs.YtnmnglcdoegbiaaGreat.L
open Go Go.V Go.RowKit Go.Proofs.YtnmnglcdoegbiaaGreat.Sp
open Go.Proofs (Tryz.prog)
noncomputable section
def CCo (Z : Qg) (K : Kg) : FuncId → TF := addC 33 (vCompare Z K) (addC 35 (vBetween Z K) (CGr Z K))
theorem compares_tree (Z : Qg) (K : Kg) (b c b2 c2 b3 c3 : Bool) (n d m e n2 d2 m2 e2 n3 d3 m3 e3 : BA) : letI q_8 := (strEq n n2 && (strEq d d2 && true)); letI q_9 := (strEq m m2 && (strEq e e2 && true)); letI q_10 := (ok5 n3 d3 && ok5 m3 e3 && decide (K.kc b3 n3 d3 c3 m3 e3 = (0 : Int))); letI q_6 := (strEq n3 n && (strEq d3 d && true)); letI q_7 := (strEq m3 m && (strEq e3 e && true)); letI q_4 := (strEq n3 n2 && (strEq d3 d2 && true)); letI q_5 := (strEq m3 m2 && (strEq e3 e2 && true)); letI q_3 : Option AV := (bif bif false then !(bif true then !(b3 == b2 && q_4 && (c3 == c2 && q_5 && true)) else b3 == b2 && q_4 && (c3 == c2 && q_5 && true)) == false else (bif true then !(b3 == b2 && q_4 && (c3 == c2 && q_5 && true)) else b3 == b2 && q_4 && (c3 == c2 && q_5 && true)) == false then some (.val (.bool false)) else some (.val (.bool true))); letI q_2 : Option AV := (bif ok5 n2 d2 && ok5 m2 e2 && decide (K.kc b2 n2 d2 c2 m2 e2 = (0 : Int)) && q_10 && (ok5 n d && ok5 m e && decide (K.kc b n d c m e = (0 : Int))) then (bif K.bt (Z.qv b2 n2 d2) (Z.qv c2 m2 e2) (Z.qv b3 n3 d3) (Z.qv c3 m3 e3) (Z.qv b n d) (Z.qv c m e) then (bif bif true then !(b3 == b2 && q_4 && (c3 == c2 && q_5 && true)) else b3 == b2 && q_4 && (c3 == c2 && q_5 && true) then (bif bif false then !false == bif true then !(b3 == b && q_6 && (c3 == c && q_7 && true)) else b3 == b && q_6 && (c3 == c && q_7 && true) else false == bif true then !(b3 == b && q_6 && (c3 == c && q_7 && true)) else b3 == b && q_6 && (c3 == c && q_7 && true) then some (.val (.bool false)) else some (.val (.bool true))) else some (.val (.bool false))) else some (.val (.bool false))) else none); letI q_1 : Option AV := (bif decide ((0 : Int) < K.cm (Z.qv (Z.qn (1 : Rat)) (Z.qs (1 : Rat)) (Z.qd (1 : Rat))) (Z.qv (Z.qn (0 : Rat)) (Z.qs (0 : Rat)) (Z.qd (0 : Rat))) (Z.qv b n d) (Z.qv c m e)) then some (.val (.bool false)) else (bif bif true then !(b == b2 && q_8 && (c == c2 && q_9 && true)) else b == b2 && q_8 && (c == c2 && q_9 && true) then (bif bif true then !(b2 == b3 && (strEq n2 n3 && (strEq d2 d3 && true)) && (c2 == c3 && (strEq m2 m3 && (strEq e2 e3 && true)) && true)) else b2 == b3 && (strEq n2 n3 && (strEq d2 d3 && true)) && (c2 == c3 && (strEq m2 m3 && (strEq e2 e3 && true)) && true) then (bif bif true then !(b == b3 && (strEq n n3 && (strEq d d3 && true)) && (c == c3 && (strEq m m3 && (strEq e e3 && true)) && true)) else b == b3 && (strEq n n3 && (strEq d d3 && true)) && (c == c3 && (strEq m m3 && (strEq e e3 && true)) && true) then (bif ok5 n d && ok5 m e && decide (K.kc b n d c m e = (0 : Int)) && q_10 && (ok5 n2 d2 && ok5 m2 e2 && decide (K.kc b2 n2 d2 c2 m2 e2 = (0 : Int))) then (bif K.bt (Z.qv b n d) (Z.qv c m e) (Z.qv b3 n3 d3) (Z.qv c3 m3 e3) (Z.qv b2 n2 d2) (Z.qv c2 m2 e2) then (bif bif true then !(b3 == b && q_6 && (c3 == c && q_7 && true)) else b3 == b && q_6 && (c3 == c && q_7 && true) then (bif ok5 n2 d2 && ok5 m2 e2 && decide (K.kc b2 n2 d2 c2 m2 e2 = (0 : Int)) && q_10 && (ok5 n d && ok5 m e && decide (K.kc b n d c m e = (0 : Int))) then (bif K.bt (Z.qv b2 n2 d2) (Z.qv c2 m2 e2) (Z.qv b3 n3 d3) (Z.qv c3 m3 e3) (Z.qv b n d) (Z.qv c m e) then (bif bif true then !(b3 == b2 && q_4 && (c3 == c2 && q_5 && true)) else b3 == b2 && q_4 && (c3 == c2 && q_5 && true) then (bif bif false then !(bif true then !(b3 == b2 && q_4 && (c3 == c2 && q_5 && true)) else b3 == b2 && q_4 && (c3 == c2 && q_5 && true)) == bif true then !(b3 == b && q_6 && (c3 == c && q_7 && true)) else b3 == b && q_6 && (c3 == c && q_7 && true) else (bif true then !(b3 == b2 && q_4 && (c3 == c2 && q_5 && true)) else b3 == b2 && q_4 && (c3 == c2 && q_5 && true)) == bif true then !(b3 == b && q_6 && (c3 == c && q_7 && true)) else b3 == b && q_6 && (c3 == c && q_7 && true) then some (.val (.bool false)) else some (.val (.bool true))) else q_3) else q_3) else none) else q_2) else q_2) else none) else some (.val (.bool true))) else some (.val (.bool true))) else some (.val (.bool true)))); 
    (callA Tryz.prog ⟨CCo Z K, Kall, noL⟩ 10 10 8 [av6 b n d c m e, av6 b2 n2 d2 c2 m2 e2, av6 b3 n3 d3 c3 m3 e3] = (bif decide ((40 : Int) < (↑(ByteArray.size n) : Int)) then some (.val (.bool true)) else (bif decide ((40 : Int) < (↑(ByteArray.size d) : Int)) then some (.val (.bool true)) else (bif decide ((40 : Int) < (↑(ByteArray.size m) : Int)) then some (.val (.bool true)) else (bif decide ((40 : Int) < (↑(ByteArray.size e) : Int)) then some (.val (.bool true)) else (bif ok6 n d && ok6 m e then (bif !decide (K.kc b n d c m e = (0 : Int)) then some (.val (.bool true)) else (bif decide ((40 : Int) < (↑(ByteArray.size n2) : Int)) then some (.val (.bool true)) else (bif decide ((40 : Int) < (↑(ByteArray.size d2) : Int)) then some (.val (.bool true)) else (bif decide ((40 : Int) < (↑(ByteArray.size m2) : Int)) then some (.val (.bool true)) else (bif decide ((40 : Int) < (↑(ByteArray.size e2) : Int)) then some (.val (.bool true)) else (bif ok6 n2 d2 && ok6 m2 e2 then (bif !decide (K.kc b2 n2 d2 c2 m2 e2 = (0 : Int)) then some (.val (.bool true)) else (bif decide ((40 : Int) < (↑(ByteArray.size n3) : Int)) then some (.val (.bool true)) else (bif decide ((40 : Int) < (↑(ByteArray.size d3) : Int)) then some (.val (.bool true)) else (bif decide ((40 : Int) < (↑(ByteArray.size m3) : Int)) then some (.val (.bool true)) else (bif decide ((40 : Int) < (↑(ByteArray.size e3) : Int)) then some (.val (.bool true)) else (bif ok6 n3 d3 && ok6 m3 e3 then (bif !decide (K.kc b3 n3 d3 c3 m3 e3 = (0 : Int)) then some (.val (.bool true)) else (bif ok6 n d && ok6 m e && decide (K.kc b n d c m e = (0 : Int)) && (ok6 n2 d2 && ok6 m2 e2 && decide (K.kc b2 n2 d2 c2 m2 e2 = (0 : Int))) then (bif ok6 n2 d2 && ok6 m2 e2 && decide (K.kc b2 n2 d2 c2 m2 e2 = (0 : Int)) && (ok6 n d && ok6 m e && decide (K.kc b n d c m e = (0 : Int))) then (bif ok6 n2 d2 && ok6 m2 e2 && decide (K.kc b2 n2 d2 c2 m2 e2 = (0 : Int)) && (ok6 n3 d3 && ok6 m3 e3 && decide (K.kc b3 n3 d3 c3 m3 e3 = (0 : Int))) then (bif ok6 n d && ok6 m e && decide (K.kc b n d c m e = (0 : Int)) && (ok6 n3 d3 && ok6 m3 e3 && decide (K.kc b3 n3 d3 c3 m3 e3 = (0 : Int))) then (bif ok6 (Z.qs (1 : Rat)) (Z.qd (1 : Rat)) && ok6 (Z.qs (0 : Rat)) (Z.qd (0 : Rat)) && decide (K.kc (Z.qn (1 : Rat)) (Z.qs (1 : Rat)) (Z.qd (1 : Rat)) (Z.qn (0 : Rat)) (Z.qs (0 : Rat)) (Z.qd (0 : Rat)) = (0 : Int)) && (ok6 n d && ok6 m e && decide (K.kc b n d c m e = (0 : Int))) then (bif !decide (K.cm (Z.qv b n d) (Z.qv c m e) (Z.qv b2 n2 d2) (Z.qv c2 m2 e2) = IntKind.i64.wrap ((0 : Int) - K.cm (Z.qv b2 n2 d2) (Z.qv c2 m2 e2) (Z.qv b n d) (Z.qv c m e))) then some (.val (.bool false)) else (bif bif true then !decide (K.cm (Z.qv b n d) (Z.qv c m e) (Z.qv b2 n2 d2) (Z.qv c2 m2 e2) = (0 : Int)) == bif false then !(b == b2 && q_8 && (c == c2 && q_9 && true)) else b == b2 && q_8 && (c == c2 && q_9 && true) else decide (K.cm (Z.qv b n d) (Z.qv c m e) (Z.qv b2 n2 d2) (Z.qv c2 m2 e2) = (0 : Int)) == bif false then !(b == b2 && q_8 && (c == c2 && q_9 && true)) else b == b2 && q_8 && (c == c2 && q_9 && true) then some (.val (.bool false)) else (bif decide (K.cm (Z.qv b n d) (Z.qv c m e) (Z.qv b2 n2 d2) (Z.qv c2 m2 e2) ≤ (0 : Int)) then (bif decide (K.cm (Z.qv b2 n2 d2) (Z.qv c2 m2 e2) (Z.qv b3 n3 d3) (Z.qv c3 m3 e3) ≤ (0 : Int)) then (bif decide ((0 : Int) < K.cm (Z.qv b n d) (Z.qv c m e) (Z.qv b3 n3 d3) (Z.qv c3 m3 e3)) then some (.val (.bool false)) else q_1) else q_1) else q_1))) else none) else none) else none) else none) else none)) else none)))))) else none)))))) else none)))))) := by kernel_rfl
end
end Go.Proofs.YtnmnglcdoegbiaaGreat.L

/- The size of the middle. -/
set_option linter.unusedVariables false
set_option linter.unusedSimpArgs false
namespace Go.Proofs.YtnmnglcdoegbiaaGreat.L
open Go Go.V Go.RowKit Go.Proofs.YtnmnglcdoegbiaaGreat.Sp Go.Proofs.YtnmnglcdoegbiaaGreat.F
open Go.Proofs (Tryz.prog)
noncomputable section
theorem ok5_40 {n d : BA} (h1 : ¬ (40 : Int) < n.size) (h2 : ¬ (40 : Int) < d.size) : ok5 n d = true := by
  unfold ok5
  rw [decide_eq_true (show n.size ≤ 10000 by omega), decide_eq_true (show d.size ≤ 10000 by omega)]; rfl
end
end Go.Proofs.YtnmnglcdoegbiaaGreat.L

/- RotationCompares holds. -/
set_option linter.unusedVariables false
set_option linter.unusedSimpArgs false
namespace Go.Proofs.YtnmnglcdoegbiaaGreat.L
open Go Go.V Go.RowKit Go.Proofs.YtnmnglcdoegbiaaGreat.Sp Go.Proofs.YtnmnglcdoegbiaaGreat.F
open Go.Proofs (Tryz.prog)
noncomputable section
theorem CCo_ok : Meets Tryz.prog (CCo sq0 kg0) := (CGr_ok.add eVBetween).add eVCompare
theorem outer (N K L : Bool) (q : Option AV) (h : N = true → K = true → L = false) : (bif N then (bif K then (bif L then some (.val (.bool false)) else q) else q) else q) = q := by
  cases N
  · rfl
  · cases K
    · rfl
    · rw [h rfl rfl]; rfl
theorem compares_true (b c b2 c2 b3 c3 : Bool) (n d m e n2 d2 m2 e2 n3 d3 m3 e3 : BA) : callA Tryz.prog ⟨CCo sq0 kg0, Kall, noL⟩ 10 10 8 [av6 b n d c m e, av6 b2 n2 d2 c2 m2 e2, av6 b3 n3 d3 c3 m3 e3] = some (.val (.bool true)) := by
  rw [compares_tree]
  by_cases an1 : (40 : Int) < n.size
  · rw [dT an1]; rfl
  by_cases ad1 : (40 : Int) < d.size
  · rw [dF an1, dT ad1]; rfl
  by_cases am1 : (40 : Int) < m.size
  · rw [dF an1, dF ad1, dT am1]; rfl
  by_cases ae1 : (40 : Int) < e.size
  · rw [dF an1, dF ad1, dF am1, dT ae1]; rfl
  have ox1 := ok40 an1 ad1
  have oy1 := ok40 am1 ae1
  by_cases k1 : kg0.kc b n d c m e = 0
  case neg => rw [dF an1, dF ad1, dF am1, dF ae1, ox1, oy1, dF k1]; rfl
  by_cases an2 : (40 : Int) < n2.size
  · rw [dF an1, dF ad1, dF am1, dF ae1, ox1, oy1, dT k1, dT an2]; rfl
  by_cases ad2 : (40 : Int) < d2.size
  · rw [dF an1, dF ad1, dF am1, dF ae1, ox1, oy1, dT k1, dF an2, dT ad2]; rfl
  by_cases am2 : (40 : Int) < m2.size
  · rw [dF an1, dF ad1, dF am1, dF ae1, ox1, oy1, dT k1, dF an2, dF ad2, dT am2]; rfl
  by_cases ae2 : (40 : Int) < e2.size
  · rw [dF an1, dF ad1, dF am1, dF ae1, ox1, oy1, dT k1, dF an2, dF ad2, dF am2, dT ae2]; rfl
  have ox2 := ok40 an2 ad2
  have oy2 := ok40 am2 ae2
  by_cases k2 : kg0.kc b2 n2 d2 c2 m2 e2 = 0
  case neg => rw [dF an1, dF ad1, dF am1, dF ae1, ox1, oy1, dT k1, dF an2, dF ad2, dF am2, dF ae2, ox2, oy2, dF k2]; rfl
  by_cases an3 : (40 : Int) < n3.size
  · rw [dF an1, dF ad1, dF am1, dF ae1, ox1, oy1, dT k1, dF an2, dF ad2, dF am2, dF ae2, ox2, oy2, dT k2, dT an3]; rfl
  by_cases ad3 : (40 : Int) < d3.size
  · rw [dF an1, dF ad1, dF am1, dF ae1, ox1, oy1, dT k1, dF an2, dF ad2, dF am2, dF ae2, ox2, oy2, dT k2, dF an3, dT ad3]; rfl
  by_cases am3 : (40 : Int) < m3.size
  · rw [dF an1, dF ad1, dF am1, dF ae1, ox1, oy1, dT k1, dF an2, dF ad2, dF am2, dF ae2, ox2, oy2, dT k2, dF an3, dF ad3, dT am3]; rfl
  by_cases ae3 : (40 : Int) < e3.size
  · rw [dF an1, dF ad1, dF am1, dF ae1, ox1, oy1, dT k1, dF an2, dF ad2, dF am2, dF ae2, ox2, oy2, dT k2, dF an3, dF ad3, dF am3, dT ae3]; rfl
  have ox3 := ok40 an3 ad3
  have oy3 := ok40 am3 ae3
  by_cases k3 : kg0.kc b3 n3 d3 c3 m3 e3 = 0
  case neg => rw [dF an1, dF ad1, dF am1, dF ae1, ox1, oy1, dT k1, dF an2, dF ad2, dF am2, dF ae2, ox2, oy2, dT k2, dF an3, dF ad3, dF am3, dF ae3, ox3, oy3, dF k3]; rfl
  rw [dF an1, dF ad1, dF am1, dF ae1, ox1, oy1, dT k1, dF an2, dF ad2, dF am2, dF ae2, ox2, oy2, dT k2, dF an3, dF ad3, dF am3, dF ae3, ox3, oy3, dT k3]
  obtain ⟨x1, y1, u1, rfl, rfl, rfl, rfl, rfl, rfl⟩ := kc_canon k1
  have zx1 := sz40 x1 an1 ad1
  have zy1 := sz40 y1 am1 ae1
  obtain ⟨x2, y2, u2, rfl, rfl, rfl, rfl, rfl, rfl⟩ := kc_canon k2
  have zx2 := sz40 x2 an2 ad2
  have zy2 := sz40 y2 am2 ae2
  obtain ⟨x3, y3, u3, rfl, rfl, rfl, rfl, rfl, rfl⟩ := kc_canon k3
  have zx3 := sz40 x3 an3 ad3
  have zy3 := sz40 y3 am3 ae3
  have p1 := ok5_40 an1 ad1
  have p2 := ok5_40 am1 ae1
  have p3 := ok5_40 an2 ad2
  have p4 := ok5_40 am2 ae2
  have p5 := ok5_40 an3 ad3
  have p6 := ok5_40 am3 ae3
  have s6 := szq_one
  have s7 := szq_zero
  have i6 := ok6_rat (q := 1) (by omega)
  have i7 := ok6_rat (q := 0) (by omega)
  have w3 := kcu (x := 1) (y := 0) (by decide +kernel)
  have hb : ∀ x y p q u v, kg0.bt x y p q u v = btn x y p q u v := fun x y p q u v => rfl
  have hc : ∀ x y u v, kg0.cm x y u v = cmn x y u v := fun x y u v => rfl
  simp only [qv_rat, rat_eq_iff, p1, p2, p3, p4, p5, p6, i6, i7, w3, hb, hc, Bool.and_self, cond_true, cond_false]
  have c1 := cm_swap u1 u2
  have c2 := cm_eq u1 u2
  have c4 := cm_none u1
  have c5 : decide (cmn x1 y1 x2 y2 ≤ 0) = true → decide (cmn x2 y2 x3 y3 ≤ 0) = true → decide (0 < cmn x1 y1 x3 y3) = false := fun a b => by
    rw [decide_eq_true_eq] at a b
    have := cm_tran u1 u2 u3 a b
    exact decide_eq_false (by omega)
  have c6 : cmn x1 y1 x2 y2 = IntKind.i64.wrap (0 - cmn x2 y2 x1 y1) := by rw [neg_wrap (cm_range _ _ _ _)]; exact c1
  rw [outer _ _ _ _ c5, dT c6, dF (show ¬ 0 < cmn 1 0 x1 y1 by omega)]
  by_cases n1 : x1 = x2 ∧ y1 = y2
  · rw [dT (c2.2 n1), dT n1.1, dT n1.2]; rfl
  rw [dF (fun h => n1 (c2.1 h)), and_no n1]
  by_cases n2 : x2 = x3 ∧ y2 = y3
  · rw [dT n2.1, dT n2.2]; rfl
  rw [and_no n2]
  by_cases n3 : x1 = x3 ∧ y1 = y3
  · rw [dT n3.1, dT n3.2]; rfl
  rw [and_no n3, and_no (show ¬ (x3 = x1 ∧ y3 = y1) from fun h => n3 ⟨h.1.symm, h.2.symm⟩), and_no (show ¬ (x3 = x2 ∧ y3 = y2) from fun h => n2 ⟨h.1.symm, h.2.symm⟩)]
  rw [bt_one u1 u3 u2 n3 n1 n2]
  generalize btn x2 y2 x3 y3 x1 y1 = t
  cases t <;> rfl
theorem compares_walk (b : Bool) (n d : BA) (c : Bool) (m e : BA) (b2 : Bool) (n2 d2 : BA) (c2 : Bool) (m2 e2 : BA) (b3 : Bool) (n3 d3 : BA) (c3 : Bool) (m3 e3 : BA) (W : World) : Calls Tryz.prog 8 #[.agg #[.bool b, .string n, .string d, .bool c, .string m, .string e], .agg #[.bool b2, .string n2, .string d2, .bool c2, .string m2, .string e2], .agg #[.bool b3, .string n3, .string d3, .bool c3, .string m3, .string e3]] W fun e w' => e = .returned (.bool true) ∧ Below W.heap.size W w' :=
  law_walk CCo_ok loops_none (by kernel_rfl) (compares_true b c b2 c2 b3 c3 n d m e n2 d2 m2 e2 n3 d3 m3 e3) W ⟨_, _, rfl, arg_pair _ _ b n d c m e, _, _, rfl, arg_pair _ _ b2 n2 d2 c2 m2 e2, _, _, rfl, arg_pair _ _ b3 n3 d3 c3 m3 e3, rfl⟩
end
end Go.Proofs.YtnmnglcdoegbiaaGreat.L
