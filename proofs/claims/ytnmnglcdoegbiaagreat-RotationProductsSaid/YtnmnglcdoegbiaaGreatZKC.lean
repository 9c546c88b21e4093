/- Laws of rotations, as trees: the group, the images. -/
import Derived.Test.YtnmnglcdoegbiaaGreatZKB
import Derived.Test.YtnmnglcdoegbiaaGreatZKA
set_option linter.unusedVariables false
set_option linter.unusedSimpArgs false

/- Laws of rotations, as trees: the group, the images. -/
set_option linter.unusedVariables false
namespace Go.Proofs.YtnmnglcdoegbiaaGreat.L
open Go Go.V Go.RowKit Go.Proofs.YtnmnglcdoegbiaaGreat.Sp
open Go.Proofs (Tryz.prog)
noncomputable section
end
end Go.Proofs.YtnmnglcdoegbiaaGreat.L

/- RotationGroup and RotationImages hold. -/
set_option linter.unusedVariables false
set_option linter.unusedSimpArgs false
namespace Go.Proofs.YtnmnglcdoegbiaaGreat.L
open Go Go.V Go.RowKit Go.Proofs.YtnmnglcdoegbiaaGreat.Sp Go.Proofs.YtnmnglcdoegbiaaGreat.F
open Go.Proofs (Tryz.prog)
noncomputable section
theorem ok40 {n d : BA} (h1 : ¬ (40 : Int) < n.size) (h2 : ¬ (40 : Int) < d.size) : ok6 n d = true := by
  unfold ok6
  rw [decide_eq_true (show n.size ≤ 1000000 by omega), decide_eq_true (show d.size ≤ 1000000 by omega)]; rfl
theorem arg_pair (B : Nat → Prop) (w : World) (b : Bool) (n d : BA) (c : Bool) (m e : BA) : (AV.agg [.val (.bool b), .val (.string n), .val (.string d), .val (.bool c), .val (.string m), .val (.string e)]).Rel Tryz.prog NoA B w NoD (.agg #[.bool b, .string n, .string d, .bool c, .string m, .string e]) := ⟨_, rfl, _, _, rfl, rfl, _, _, rfl, rfl, _, _, rfl, rfl, _, _, rfl, rfl, _, _, rfl, rfl, _, _, rfl, rfl, rfl⟩
end
end Go.Proofs.YtnmnglcdoegbiaaGreat.L

/- The exported functions of the reference of rotation, as trees; RotationProducts. -/
set_option linter.unusedVariables false
namespace Go.Proofs.YtnmnglcdoegbiaaGreat.L
open Go Go.V Go.RowKit Go.Proofs.YtnmnglcdoegbiaaGreat.Sp
open Go.Proofs (Tryz.prog)
noncomputable section
def tAwakeR : TF := fun args => match args with | [] => some (true, .val (.bool true)) | _ => none
def CRx (Z : Qg) (K : Kg) : FuncId → TF := addC 27 (tKCheck K) (addC 53 (tKThen Z) (addC 54 (tKBack Z) (addC 55 (tKThen Z) (CKs Z))))
theorem rxnone_tree (Z : Qg) (K : Kg) : callA Tryz.prog ⟨CRx Z K, Kall, noL⟩ 10 10 30 [] =
    (some (.agg [(.val (.bool (Z.qn (Z.fr (1 : Int) (1 : Int))))), (.val (.string (Z.qs (Z.fr (1 : Int) (1 : Int))))), (.val (.string (Z.qd (Z.fr (1 : Int) (1 : Int))))), (.val (.bool false)), (.val (.string (ByteArray.mk #[]))), (.val (.string (ByteArray.mk #[])))])) := by kernel_rfl
theorem rxthen_tree (Z : Qg) (K : Kg) (b c b2 c2 : Bool) (n d m e n2 d2 m2 e2 : BA) : letI q_1 := (Z.qv b n d * Z.qv b2 n2 d2 - Z.qv c m e * Z.qv c2 m2 e2); letI q_2 := (Z.qv c m e * Z.qv b2 n2 d2 + Z.qv b n d * Z.qv c2 m2 e2); 
    (callA Tryz.prog ⟨CRx Z K, Kall, noL⟩ 10 10 22 [av6 b n d c m e, av6 b2 n2 d2 c2 m2 e2] = (bif ok6 n d && ok6 m e then (bif !decide (K.kc b n d c m e = (0 : Int)) then some (.tup [(.agg [(.val (.bool false)), (.val (.string (ByteArray.mk #[]))), (.val (.string (ByteArray.mk #[]))), (.val (.bool false)), (.val (.string (ByteArray.mk #[]))), (.val (.string (ByteArray.mk #[])))]), (.val (.int .i64 1))]) else (bif ok6 n2 d2 && ok6 m2 e2 then (bif !decide (K.kc b2 n2 d2 c2 m2 e2 = (0 : Int)) then some (.tup [(.agg [(.val (.bool false)), (.val (.string (ByteArray.mk #[]))), (.val (.string (ByteArray.mk #[]))), (.val (.bool false)), (.val (.string (ByteArray.mk #[]))), (.val (.string (ByteArray.mk #[])))]), (.val (.int .i64 1))]) else (bif ok6 n d && ok6 m e && ok6 n2 d2 && ok6 m2 e2 then some (.tup [(.agg [(.val (.bool (Z.qn q_1))), (.val (.string (Z.qs q_1))), (.val (.string (Z.qd q_1))), (.val (.bool (Z.qn q_2))), (.val (.string (Z.qs q_2))), (.val (.string (Z.qd q_2)))]), (.val (.int .i64 0))]) else none)) else none)) else none)) := by kernel_rfl
theorem rxback_tree (Z : Qg) (K : Kg) (b c : Bool) (n d m e : BA) : callA Tryz.prog ⟨CRx Z K, Kall, noL⟩ 10 10 23 [av6 b n d c m e] =
    (bif ok6 n d && ok6 m e then (bif !decide (K.kc b n d c m e = (0 : Int)) then some (.tup [(.agg [(.val (.bool false)), (.val (.string (ByteArray.mk #[]))), (.val (.string (ByteArray.mk #[]))), (.val (.bool false)), (.val (.string (ByteArray.mk #[]))), (.val (.string (ByteArray.mk #[])))]), (.val (.int .i64 1))]) else (bif ok6 n d && ok6 m e then some (.tup [(.agg [(.val (.bool b)), (.val (.string n)), (.val (.string d)), (.val (.bool (Z.qn (-Z.qv c m e)))), (.val (.string (Z.qs (-Z.qv c m e)))), (.val (.string (Z.qd (-Z.qv c m e))))]), (.val (.int .i64 0))]) else none)) else none) := by kernel_rfl
theorem rxapply_tree (Z : Qg) (K : Kg) (b c b2 c2 : Bool) (n d m e n2 d2 m2 e2 : BA) : callA Tryz.prog ⟨CRx Z K, Kall, noL⟩ 10 10 24 [av6 b n d c m e, av6 b2 n2 d2 c2 m2 e2] =
    (bif ok6 n d && ok6 m e then (bif !decide (K.kc b n d c m e = (0 : Int)) then some (.tup [(.agg [(.val (.bool false)), (.val (.string (ByteArray.mk #[]))), (.val (.string (ByteArray.mk #[]))), (.val (.bool false)), (.val (.string (ByteArray.mk #[]))), (.val (.string (ByteArray.mk #[])))]), (.val (.int .i64 1))]) else (bif ok6 n d && ok6 m e && ok6 n2 d2 && ok6 m2 e2 then some (.tup [(.agg [(.val (.bool (Z.qn (Z.qv b n d * Z.qv b2 n2 d2 - Z.qv c m e * Z.qv c2 m2 e2)))), (.val (.string (Z.qs (Z.qv b n d * Z.qv b2 n2 d2 - Z.qv c m e * Z.qv c2 m2 e2)))), (.val (.string (Z.qd (Z.qv b n d * Z.qv b2 n2 d2 - Z.qv c m e * Z.qv c2 m2 e2)))), (.val (.bool (Z.qn (Z.qv c m e * Z.qv b2 n2 d2 + Z.qv b n d * Z.qv c2 m2 e2)))), (.val (.string (Z.qs (Z.qv c m e * Z.qv b2 n2 d2 + Z.qv b n d * Z.qv c2 m2 e2)))), (.val (.string (Z.qd (Z.qv c m e * Z.qv b2 n2 d2 + Z.qv b n d * Z.qv c2 m2 e2))))]), (.val (.int .i64 0))]) else none)) else none) := by kernel_rfl
theorem rxtan_tree (Z : Qg) (K : Kg) (b c : Bool) (n d m e : BA) : letI q_3 := (Z.fr (1 : Int) (1 : Int)); letI q_1 := (Z.qv (Z.qn q_3) (Z.qs q_3) (Z.qd q_3) + Z.qv b n d); letI q_2 := (Z.qv c m e / Z.qv (Z.qn q_1) (Z.qs q_1) (Z.qd q_1)); 
    (callA Tryz.prog ⟨CRx Z K, Kall, noL⟩ 10 10 26 [av6 b n d c m e] = (bif ok6 n d && ok6 m e then (bif !decide (K.kc b n d c m e = (0 : Int)) then some (.tup [(.agg [(.val (.bool false)), (.val (.string (ByteArray.mk #[]))), (.val (.string (ByteArray.mk #[])))]), (.val (.int .i64 1))]) else (bif Z.oks (Z.qs q_3) (Z.qd q_3) && Z.oks n d then (bif Z.oks (Z.qs q_1) (Z.qd q_1) then (bif decide (Z.sq (Z.qv (Z.qn q_1) (Z.qs q_1) (Z.qd q_1)) = (0 : Int)) then some (.tup [(.agg [(.val (.bool false)), (.val (.string (ByteArray.mk #[]))), (.val (.string (ByteArray.mk #[])))]), (.val (.int .i64 12))]) else (bif Z.oks m e && Z.oks (Z.qs q_1) (Z.qd q_1) then some (.tup [(.agg [(.val (.bool (Z.qn q_2))), (.val (.string (Z.qs q_2))), (.val (.string (Z.qd q_2)))]), (.val (.int .i64 0))]) else none)) else none) else none)) else none)) := by kernel_rfl
def CPr (Z : Qg) (K : Kg) : FuncId → TF := addC 21 (xKThen Z K) (addC 22 (xKThen Z K) (addC 12 (xKBack Z K) (addC 23 (xKBack Z K) (addC 17 (xKApply Z K) (addC 24 (xKApply Z K) (addC 25 (xKTan Z K) (addC 26 (xKTan Z K) (addC 15 (tKCheck K) (addC 27 (tKCheck K) (addC 28 (tKOf Z) (addC 29 (tKOf Z) (addC 14 (xKNone Z) (addC 30 (xKNone Z) (addC 11 tAwakeR noC))))))))))))))
theorem products_tree (Z : Qg) (K : Kg) (b c b2 c2 b4 c4 b3 : Bool) (n d m e n2 d2 m2 e2 n4 d4 m4 e4 n3 d3 : BA) : letI q_1 := (K.sel (K.or2 (K.kc b n d c m e) (K.kc b2 n2 d2 c2 m2 e2)) (Z.qv b n d * Z.qv b2 n2 d2 - Z.qv c m e * Z.qv c2 m2 e2)); letI q_2 := (K.sel (K.or2 (K.kc b n d c m e) (K.kc b2 n2 d2 c2 m2 e2)) (Z.qv c m e * Z.qv b2 n2 d2 + Z.qv b n d * Z.qv c2 m2 e2)); letI q_3 := (K.or1 (K.kc b n d c m e)); letI q_4 := (((1 : Rat) - Z.qv b3 n3 d3 * Z.qv b3 n3 d3) / ((1 : Rat) + Z.qv b3 n3 d3 * Z.qv b3 n3 d3)); letI q_5 := (K.sel (K.tk (K.kc b n d c m e) (Z.qv b n d)) (Z.qv c m e / ((1 : Rat) + Z.qv b n d))); letI q_6 := ((Z.qv b3 n3 d3 + Z.qv b3 n3 d3) / ((1 : Rat) + Z.qv b3 n3 d3 * Z.qv b3 n3 d3)); letI q_7 := (K.sel q_3 (Z.qv b n d * Z.qv b4 n4 d4 - Z.qv c m e * Z.qv c4 m4 e4)); letI q_8 := (K.sel q_3 (Z.qv c m e * Z.qv b4 n4 d4 + Z.qv b n d * Z.qv c4 m4 e4)); letI q_9 := (K.sel q_3 (-Z.qv c m e)); letI q_10 := (K.sel q_3 (Z.qv b n d)); letI q_11 := (strEq (Z.qs (1 : Rat)) (Z.qs (1 : Rat)) && (strEq (Z.qd (1 : Rat)) (Z.qd (1 : Rat)) && true)); letI q_12 := (strEq (Z.qs (0 : Rat)) (Z.qs (0 : Rat)) && (strEq (Z.qd (0 : Rat)) (Z.qd (0 : Rat)) && true)); 
    (callA Tryz.prog ⟨CPr Z K, Kall, noL⟩ 10 10 5 [av6 b n d c m e, av6 b2 n2 d2 c2 m2 e2, av3 b3 n3 d3, av6 b4 n4 d4 c4 m4 e4] = (bif decide ((40 : Int) < (↑(ByteArray.size n) : Int)) then some (.val (.bool true)) else (bif decide ((40 : Int) < (↑(ByteArray.size d) : Int)) then some (.val (.bool true)) else (bif decide ((40 : Int) < (↑(ByteArray.size m) : Int)) then some (.val (.bool true)) else (bif decide ((40 : Int) < (↑(ByteArray.size e) : Int)) then some (.val (.bool true)) else (bif decide ((40 : Int) < (↑(ByteArray.size n2) : Int)) then some (.val (.bool true)) else (bif decide ((40 : Int) < (↑(ByteArray.size d2) : Int)) then some (.val (.bool true)) else (bif decide ((40 : Int) < (↑(ByteArray.size m2) : Int)) then some (.val (.bool true)) else (bif decide ((40 : Int) < (↑(ByteArray.size e2) : Int)) then some (.val (.bool true)) else (bif decide ((40 : Int) < (↑(ByteArray.size n3) : Int)) then some (.val (.bool true)) else (bif decide ((40 : Int) < (↑(ByteArray.size d3) : Int)) then some (.val (.bool true)) else (bif decide ((40 : Int) < (↑(ByteArray.size n4) : Int)) then some (.val (.bool true)) else (bif decide ((40 : Int) < (↑(ByteArray.size d4) : Int)) then some (.val (.bool true)) else (bif decide ((40 : Int) < (↑(ByteArray.size m4) : Int)) then some (.val (.bool true)) else (bif decide ((40 : Int) < (↑(ByteArray.size e4) : Int)) then some (.val (.bool true)) else (bif ok6 n d && ok6 m e && ok6 n2 d2 && ok6 m2 e2 then (bif ok6 n d && ok6 m e && ok6 n2 d2 && ok6 m2 e2 then (bif ok6 n d && ok6 m e then (bif ok6 n d && ok6 m e then (bif ok6 n d && ok6 m e && ok6 n4 d4 && ok6 m4 e4 then (bif ok6 n d && ok6 m e && ok6 n4 d4 && ok6 m4 e4 then (bif ok6 n d && ok6 m e then (bif ok6 n d && ok6 m e then (bif ok6 n d && ok6 m e then (bif ok6 n d && ok6 m e then (bif decide (K.kc b n d c m e = K.kc b n d c m e) then (bif ok6 n3 d3 then (bif ok6 n3 d3 then (bif bif false then !(Z.qn q_4 == Z.qn q_4 && (strEq (Z.qs q_4) (Z.qs q_4) && (strEq (Z.qd q_4) (Z.qd q_4) && true)) && (Z.qn q_6 == Z.qn q_6 && (strEq (Z.qs q_6) (Z.qs q_6) && (strEq (Z.qd q_6) (Z.qd q_6) && true)) && true)) else Z.qn q_4 == Z.qn q_4 && (strEq (Z.qs q_4) (Z.qs q_4) && (strEq (Z.qd q_4) (Z.qd q_4) && true)) && (Z.qn q_6 == Z.qn q_6 && (strEq (Z.qs q_6) (Z.qs q_6) && (strEq (Z.qd q_6) (Z.qd q_6) && true)) && true) then (bif bif false then !(Z.qn (1 : Rat) == Z.qn (1 : Rat) && q_11 && (Z.qn (0 : Rat) == Z.qn (0 : Rat) && q_12 && true)) else Z.qn (1 : Rat) == Z.qn (1 : Rat) && q_11 && (Z.qn (0 : Rat) == Z.qn (0 : Rat) && q_12 && true) then (bif bif false then !(Z.qn q_1 == Z.qn q_1 && (strEq (Z.qs q_1) (Z.qs q_1) && (strEq (Z.qd q_1) (Z.qd q_1) && true)) && (Z.qn q_2 == Z.qn q_2 && (strEq (Z.qs q_2) (Z.qs q_2) && (strEq (Z.qd q_2) (Z.qd q_2) && true)) && true)) else Z.qn q_1 == Z.qn q_1 && (strEq (Z.qs q_1) (Z.qs q_1) && (strEq (Z.qd q_1) (Z.qd q_1) && true)) && (Z.qn q_2 == Z.qn q_2 && (strEq (Z.qs q_2) (Z.qs q_2) && (strEq (Z.qd q_2) (Z.qd q_2) && true)) && true) then (bif decide (K.or2 (K.kc b n d c m e) (K.kc b2 n2 d2 c2 m2 e2) = K.or2 (K.kc b n d c m e) (K.kc b2 n2 d2 c2 m2 e2)) then (bif bif false then !(Z.qn q_10 == Z.qn q_10 && (strEq (Z.qs q_10) (Z.qs q_10) && (strEq (Z.qd q_10) (Z.qd q_10) && true)) && (Z.qn q_9 == Z.qn q_9 && (strEq (Z.qs q_9) (Z.qs q_9) && (strEq (Z.qd q_9) (Z.qd q_9) && true)) && true)) else Z.qn q_10 == Z.qn q_10 && (strEq (Z.qs q_10) (Z.qs q_10) && (strEq (Z.qd q_10) (Z.qd q_10) && true)) && (Z.qn q_9 == Z.qn q_9 && (strEq (Z.qs q_9) (Z.qs q_9) && (strEq (Z.qd q_9) (Z.qd q_9) && true)) && true) then (bif decide (K.or1 (K.kc b n d c m e) = K.or1 (K.kc b n d c m e)) then (bif bif false then !(Z.qn q_7 == Z.qn q_7 && (strEq (Z.qs q_7) (Z.qs q_7) && (strEq (Z.qd q_7) (Z.qd q_7) && true)) && (Z.qn q_8 == Z.qn q_8 && (strEq (Z.qs q_8) (Z.qs q_8) && (strEq (Z.qd q_8) (Z.qd q_8) && true)) && true)) else Z.qn q_7 == Z.qn q_7 && (strEq (Z.qs q_7) (Z.qs q_7) && (strEq (Z.qd q_7) (Z.qd q_7) && true)) && (Z.qn q_8 == Z.qn q_8 && (strEq (Z.qs q_8) (Z.qs q_8) && (strEq (Z.qd q_8) (Z.qd q_8) && true)) && true) then (bif decide (K.or1 (K.kc b n d c m e) = K.or1 (K.kc b n d c m e)) then (bif bif false then !(Z.qn q_5 == Z.qn q_5 && (strEq (Z.qs q_5) (Z.qs q_5) && (strEq (Z.qd q_5) (Z.qd q_5) && true))) else Z.qn q_5 == Z.qn q_5 && (strEq (Z.qs q_5) (Z.qs q_5) && (strEq (Z.qd q_5) (Z.qd q_5) && true)) then (bif decide (K.tk (K.kc b n d c m e) (Z.qv b n d) = K.tk (K.kc b n d c m e) (Z.qv b n d)) then some (.val (.bool true)) else some (.val (.bool false))) else some (.val (.bool false))) else some (.val (.bool false))) else some (.val (.bool false))) else some (.val (.bool false))) else some (.val (.bool false))) else some (.val (.bool false))) else some (.val (.bool false))) else some (.val (.bool false))) else some (.val (.bool false))) else none) else none) else some (.val (.bool false))) else none) else none) else none) else none) else none) else none) else none) else none) else none) else none)))))))))))))))) := by kernel_rfl
end
end Go.Proofs.YtnmnglcdoegbiaaGreat.L

/- The functions of the reference of rotation as entries: then, back, Image, Of; Tangent of rotation. -/
set_option linter.unusedVariables false
set_option linter.unusedSimpArgs false
namespace Go.Proofs.YtnmnglcdoegbiaaGreat.L
open Go Go.V Go.RowKit Go.Proofs.YtnmnglcdoegbiaaGreat.Sp Go.Proofs.YtnmnglcdoegbiaaGreat.F
open Go.Proofs (Tryz.prog)
noncomputable section
theorem eRKThen : Entry Tryz.prog 53 (tKThen sq0) := by
  refine entry_of (E := ⟨CKs sq0, Kall, noL⟩) (u := 10) (d := 10) CKs_ok loops_none mixed (by kernel_rfl) (fun args r h => ?_)
  unfold tKThen tK2 k2 at h
  split at h
  · rename_i b n d c m e b2 n2 d2 c2 m2 e2
    simp only [Option.some.injEq, Prod.mk.injEq, Bool.and_eq_true] at h
    obtain ⟨⟨⟨⟨h1, h2⟩, h3⟩, h4⟩, rfl⟩ := h
    have hcall := rkthen_tree sq0 b c b2 c2 n d m e n2 d2 m2 e2
    have z1 := ok6_sz (b := b) h1
    have z2 := ok6_sz (b := c) h2
    have z3 := ok6_sz (b := b2) h3
    have z4 := ok6_sz (b := c2) h4
    rw [ok6_oks h1, ok6_oks h2, ok6_oks h3, ok6_oks h4] at hcall
    generalize sq0.qv b n d = x at *
    generalize sq0.qv c m e = y at *
    generalize sq0.qv b2 n2 d2 = u at *
    generalize sq0.qv c2 m2 e2 = v at *
    have s1 := szq_mul x u
    have s2 := szq_mul y v
    have s3 := szq_mul y u
    have s4 := szq_mul x v
    have a1 := oks_rat (q := x * u) (by omega)
    have a2 := oks_rat (q := y * v) (by omega)
    have a3 := oks_rat (q := y * u) (by omega)
    have a4 := oks_rat (q := x * v) (by omega)
    simp only [qv_rat, a1, a2, a3, a4, Bool.and_self, cond_true] at hcall
    exact hcall
  · cases h
theorem eRKImage : Entry Tryz.prog 55 (tKThen sq0) := by
  refine entry_of (E := ⟨CKs sq0, Kall, noL⟩) (u := 10) (d := 10) CKs_ok loops_none mixed (by kernel_rfl) (fun args r h => ?_)
  unfold tKThen tK2 k2 at h
  split at h
  · rename_i b n d c m e b2 n2 d2 c2 m2 e2
    simp only [Option.some.injEq, Prod.mk.injEq, Bool.and_eq_true] at h
    obtain ⟨⟨⟨⟨h1, h2⟩, h3⟩, h4⟩, rfl⟩ := h
    have hcall := rkimage_tree sq0 b c b2 c2 n d m e n2 d2 m2 e2
    have z1 := ok6_sz (b := b) h1
    have z2 := ok6_sz (b := c) h2
    have z3 := ok6_sz (b := b2) h3
    have z4 := ok6_sz (b := c2) h4
    rw [ok6_oks h1, ok6_oks h2, ok6_oks h3, ok6_oks h4] at hcall
    generalize sq0.qv b n d = x at *
    generalize sq0.qv c m e = y at *
    generalize sq0.qv b2 n2 d2 = u at *
    generalize sq0.qv c2 m2 e2 = v at *
    have s1 := szq_mul x u
    have s2 := szq_mul y v
    have s3 := szq_mul y u
    have s4 := szq_mul x v
    have a1 := oks_rat (q := x * u) (by omega)
    have a2 := oks_rat (q := y * v) (by omega)
    have a3 := oks_rat (q := y * u) (by omega)
    have a4 := oks_rat (q := x * v) (by omega)
    simp only [qv_rat, a1, a2, a3, a4, Bool.and_self, cond_true] at hcall
    exact hcall
  · cases h
theorem eRKBack : Entry Tryz.prog 54 (tKBack sq0) := by
  refine entry_of (E := ⟨CKs sq0, Kall, noL⟩) (u := 10) (d := 10) CKs_ok loops_none mixed (by kernel_rfl) (fun args r h => ?_)
  unfold tKBack k1 at h
  split at h
  · rename_i b n d c m e
    simp only [Option.some.injEq, Prod.mk.injEq, Bool.and_eq_true] at h
    obtain ⟨⟨h1, h2⟩, rfl⟩ := h
    have hcall := rkback_tree sq0 b c n d m e
    rw [ok6_oks h2] at hcall
    exact hcall
  · cases h
theorem eRKOf : Entry Tryz.prog 29 (tKOf sq0) := by
  refine entry_of (E := ⟨CKs sq0, Kall, noL⟩) (u := 10) (d := 10) CKs_ok loops_none mixed (by kernel_rfl) (fun args r h => ?_)
  unfold tKOf k0 at h
  split at h
  · rename_i b n d
    simp only [Option.some.injEq, Prod.mk.injEq] at h
    obtain ⟨h1, rfl⟩ := h
    have hcall := rkof_tree sq0 b n d
    have z1 := ok6_sz (b := b) h1
    rw [ok6_oks h1] at hcall
    generalize sq0.qv b n d = t at *
    have s1 := szq_mul t t
    have s2 := szq_add 1 (t * t)
    have s3 := szq_sub 1 (t * t)
    have s4 := szq_add t t
    have s5 := szq_one
    have a1 := oks_rat (q := t * t) (by omega)
    have a2 := oks_rat (q := 1 + t * t) (by omega)
    have a3 := oks_rat (q := 1 - t * t) (by omega)
    have a4 := oks_rat (q := t + t) (by omega)
    have a5 := oks_rat (q := (1 : Rat)) (by omega)
    simp only [qv_rat, fr_11, a1, a2, a3, a4, a5, Bool.and_self, cond_true] at hcall
    exact hcall
  · cases h
theorem CRx_ok : Meets Tryz.prog (CRx sq0 kg0) := (((CKs_ok.add eRKImage).add eRKBack).add eRKThen).add eRKCheck
theorem eRXNone : Entry Tryz.prog 30 (xKNone sq0) := by
  refine entry_of (E := ⟨CRx sq0 kg0, Kall, noL⟩) (u := 10) (d := 10) CRx_ok loops_none mixed (by kernel_rfl) (fun args r h => ?_)
  unfold xKNone at h
  split at h
  · cases h
    have hcall := rxnone_tree sq0 kg0
    rw [fr_11] at hcall
    rw [hcall]
    have h := rat_zero
    have h2 : sq0.rat 0 = .agg [.val (.bool (sq0.qn 0)), .val (.string (sq0.qs 0)), .val (.string (sq0.qd 0))] := rfl
    rw [h2] at h
    simp only [AV.agg.injEq, List.cons.injEq, AV.val.injEq, Value.bool.injEq, Value.string.injEq, and_true] at h
    obtain ⟨e1, e2, e3⟩ := h
    unfold Qg.pair
    rw [e1, e2, e3]
  · cases h
theorem eRXThen : Entry Tryz.prog 22 (xKThen sq0 kg0) := by
  refine entry_of (E := ⟨CRx sq0 kg0, Kall, noL⟩) (u := 10) (d := 10) CRx_ok loops_none mixed (by kernel_rfl) (fun args r h => ?_)
  unfold xKThen k2 at h
  split at h
  · rename_i b n d c m e b2 n2 d2 c2 m2 e2
    simp only [Option.some.injEq, Prod.mk.injEq, Bool.and_eq_true] at h
    obtain ⟨⟨⟨⟨h1, h2⟩, h3⟩, h4⟩, rfl⟩ := h
    have hcall := rxthen_tree sq0 kg0 b c b2 c2 n d m e n2 d2 m2 e2
    rw [h1, h2, h3, h4] at hcall
    rw [hcall]
    by_cases k1 : kg0.kc b n d c m e = 0
    · by_cases k2 : kg0.kc b2 n2 d2 c2 m2 e2 = 0
      · rw [dT k1, dT k2, k1, k2]; rfl
      · rw [dT k1, dF k2, or2_n2 k2, sel_1, sel_1, pair_zero]; rfl
    · rw [dF k1, or2_n1 k1, sel_1, sel_1, pair_zero]; rfl
  · cases h
theorem eRXBack : Entry Tryz.prog 23 (xKBack sq0 kg0) := by
  refine entry_of (E := ⟨CRx sq0 kg0, Kall, noL⟩) (u := 10) (d := 10) CRx_ok loops_none mixed (by kernel_rfl) (fun args r h => ?_)
  unfold xKBack k1 at h
  split at h
  · rename_i b n d c m e
    simp only [Option.some.injEq, Prod.mk.injEq, Bool.and_eq_true] at h
    obtain ⟨⟨h1, h2⟩, rfl⟩ := h
    have hcall := rxback_tree sq0 kg0 b c n d m e
    rw [h1, h2] at hcall
    rw [hcall]
    by_cases k1 : kg0.kc b n d c m e = 0
    · obtain ⟨c1, _, _⟩ := kc_zero k1
      obtain ⟨e1, e2, e3⟩ := ck_canon c1
      rw [dT k1, k1]
      show some (AV.tup [.agg [.val (.bool b), .val (.string n), .val (.string d), _, _, _], _]) = some (AV.tup [.agg [.val (.bool (sq0.qn (sq0.qv b n d))), .val (.string (sq0.qs (sq0.qv b n d))), .val (.string (sq0.qd (sq0.qv b n d))), _, _, _], _])
      rw [← e1, ← e2, ← e3]; rfl
    · rw [dF k1, or1_n k1, sel_1, sel_1, pair_zero]; rfl
  · cases h
theorem eRXApply : Entry Tryz.prog 24 (xKApply sq0 kg0) := by
  refine entry_of (E := ⟨CRx sq0 kg0, Kall, noL⟩) (u := 10) (d := 10) CRx_ok loops_none mixed (by kernel_rfl) (fun args r h => ?_)
  unfold xKApply k2 at h
  split at h
  · rename_i b n d c m e b2 n2 d2 c2 m2 e2
    simp only [Option.some.injEq, Prod.mk.injEq, Bool.and_eq_true] at h
    obtain ⟨⟨⟨⟨h1, h2⟩, h3⟩, h4⟩, rfl⟩ := h
    have hcall := rxapply_tree sq0 kg0 b c b2 c2 n d m e n2 d2 m2 e2
    rw [h1, h2, h3, h4] at hcall
    rw [hcall]
    by_cases k1 : kg0.kc b n d c m e = 0
    · rw [dT k1, k1]; rfl
    · rw [dF k1, or1_n k1, sel_1, sel_1, pair_zero]; rfl
  · cases h
theorem rat_nil : sq0.rat 0 = .agg [.val (.bool false), .val (.string (ByteArray.mk #[])), .val (.string (ByteArray.mk #[]))] := rat_zero
theorem tk_n {k : Int} (x : Rat) (h : ¬ k = 0) : kg0.tk k x = 1 := if_neg h
theorem tk_0 (x : Rat) : kg0.tk 0 x = if 1 + x = 0 then 12 else 0 := (show (if (0 : Int) = 0 then (if 1 + x = 0 then (12 : Int) else 0) else 1) = (if 1 + x = 0 then (12 : Int) else 0) from if_pos rfl)
theorem sel_x (q : Rat) : kg0.sel 12 q = 0 := (show (if (12 : Int) = 0 then q else 0) = 0 from if_neg (by decide))
theorem eXTan : Entry Tryz.prog 25 (xKTan sq0 kg0) := by
  refine entry_of (E := ⟨CKx sg0 sq0 kg0, Kall, noL⟩) (u := 10) (d := 10) CKx_ok loops_none mixed (by kernel_rfl) (fun args r h => ?_)
  unfold xKTan k1 at h
  split at h
  · rename_i b n d c m e
    simp only [Option.some.injEq, Prod.mk.injEq, Bool.and_eq_true] at h
    obtain ⟨⟨h1, h2⟩, rfl⟩ := h
    have hcall := xtan_tree sg0 sq0 kg0 b c n d m e
    have z1 := ok6_sz (b := b) h1
    have z2 := ok6_sz (b := c) h2
    obtain ⟨o1, _⟩ := ok6_ok h1
    obtain ⟨o2, _⟩ := ok6_ok h2
    rw [h1, h2] at hcall
    simp only [qv_rat, qv_nil, Rat.zero_add, fr_11, qok_nil, sqz] at hcall
    have s1 := szq_one
    have s2 := szq_add 1 (sq0.qv b n d)
    rw [ok_rat (q := 1) (by omega), ok_rat (q := 1 + sq0.qv b n d) (by omega), o1, o2] at hcall
    rw [hcall]
    by_cases k1 : kg0.kc b n d c m e = 0
    · rw [dT k1, k1, tk_0]
      by_cases g : 1 + sq0.qv b n d = 0
      · rw [dT ((cq_zero _ _).2 g), if_pos g, sel_x, rat_nil]; rfl
      · rw [dF (fun h => g ((cq_zero _ _).1 h)), if_neg g, sel_0]; rfl
    · rw [dF k1, tk_n _ k1, sel_1, rat_nil]; rfl
  · cases h
theorem eRXTan : Entry Tryz.prog 26 (xKTan sq0 kg0) := by
  refine entry_of (E := ⟨CRx sq0 kg0, Kall, noL⟩) (u := 10) (d := 10) CRx_ok loops_none mixed (by kernel_rfl) (fun args r h => ?_)
  unfold xKTan k1 at h
  split at h
  · rename_i b n d c m e
    simp only [Option.some.injEq, Prod.mk.injEq, Bool.and_eq_true] at h
    obtain ⟨⟨h1, h2⟩, rfl⟩ := h
    have hcall := rxtan_tree sq0 kg0 b c n d m e
    have z1 := ok6_sz (b := b) h1
    have z2 := ok6_sz (b := c) h2
    rw [h1, h2] at hcall
    simp only [qv_rat, fr_11, sqz] at hcall
    have s1 := szq_one
    have s2 := szq_add 1 (sq0.qv b n d)
    rw [oks_rat (q := 1) (by omega), oks_rat (q := 1 + sq0.qv b n d) (by omega), ok6_oks h1, ok6_oks h2] at hcall
    rw [hcall]
    by_cases k1 : kg0.kc b n d c m e = 0
    · rw [dT k1, k1, tk_0]
      by_cases g : 1 + sq0.qv b n d = 0
      · rw [dT ((cq_zero _ _).2 g), if_pos g, sel_x, rat_nil]; rfl
      · rw [dF (fun h => g ((cq_zero _ _).1 h)), if_neg g, sel_0]; rfl
    · rw [dF k1, tk_n _ k1, sel_1, rat_nil]; rfl
  · cases h
end
end Go.Proofs.YtnmnglcdoegbiaaGreat.L

/- RotationProducts holds. -/
set_option linter.unusedVariables false
set_option linter.unusedSimpArgs false
namespace Go.Proofs.YtnmnglcdoegbiaaGreat.L
open Go Go.V Go.RowKit Go.Proofs.YtnmnglcdoegbiaaGreat.Sp Go.Proofs.YtnmnglcdoegbiaaGreat.F
open Go.Proofs (Tryz.prog)
noncomputable section
theorem eAwakeR : Entry Tryz.prog 11 tAwakeR := eAwakeK
theorem CPr_ok : Meets Tryz.prog (CPr sq0 kg0) := (((((((((((((((meets_none _).add eAwakeR).add eRXNone).add eXNone).add eRKOf).add eKOf).add eRKCheck).add eKCheck).add eRXTan).add eXTan).add eRXApply).add eXApply).add eRXBack).add eXBack).add eRXThen).add eXThen
theorem products_true (b c b2 c2 b4 c4 b3 : Bool) (n d m e n2 d2 m2 e2 n4 d4 m4 e4 n3 d3 : BA) : callA Tryz.prog ⟨CPr sq0 kg0, Kall, noL⟩ 10 10 5 [av6 b n d c m e, av6 b2 n2 d2 c2 m2 e2, av3 b3 n3 d3, av6 b4 n4 d4 c4 m4 e4] = some (.val (.bool true)) := by
  rw [products_tree]
  by_cases an : (40 : Int) < n.size
  · rw [dT an]; rfl
  by_cases ad : (40 : Int) < d.size
  · rw [dF an, dT ad]; rfl
  by_cases am : (40 : Int) < m.size
  · rw [dF an, dF ad, dT am]; rfl
  by_cases ae : (40 : Int) < e.size
  · rw [dF an, dF ad, dF am, dT ae]; rfl
  by_cases an2 : (40 : Int) < n2.size
  · rw [dF an, dF ad, dF am, dF ae, dT an2]; rfl
  by_cases ad2 : (40 : Int) < d2.size
  · rw [dF an, dF ad, dF am, dF ae, dF an2, dT ad2]; rfl
  by_cases am2 : (40 : Int) < m2.size
  · rw [dF an, dF ad, dF am, dF ae, dF an2, dF ad2, dT am2]; rfl
  by_cases ae2 : (40 : Int) < e2.size
  · rw [dF an, dF ad, dF am, dF ae, dF an2, dF ad2, dF am2, dT ae2]; rfl
  by_cases an3 : (40 : Int) < n3.size
  · rw [dF an, dF ad, dF am, dF ae, dF an2, dF ad2, dF am2, dF ae2, dT an3]; rfl
  by_cases ad3 : (40 : Int) < d3.size
  · rw [dF an, dF ad, dF am, dF ae, dF an2, dF ad2, dF am2, dF ae2, dF an3, dT ad3]; rfl
  by_cases an4 : (40 : Int) < n4.size
  · rw [dF an, dF ad, dF am, dF ae, dF an2, dF ad2, dF am2, dF ae2, dF an3, dF ad3, dT an4]; rfl
  by_cases ad4 : (40 : Int) < d4.size
  · rw [dF an, dF ad, dF am, dF ae, dF an2, dF ad2, dF am2, dF ae2, dF an3, dF ad3, dF an4, dT ad4]; rfl
  by_cases am4 : (40 : Int) < m4.size
  · rw [dF an, dF ad, dF am, dF ae, dF an2, dF ad2, dF am2, dF ae2, dF an3, dF ad3, dF an4, dF ad4, dT am4]; rfl
  by_cases ae4 : (40 : Int) < e4.size
  · rw [dF an, dF ad, dF am, dF ae, dF an2, dF ad2, dF am2, dF ae2, dF an3, dF ad3, dF an4, dF ad4, dF am4, dT ae4]; rfl
  rw [dF an, dF ad, dF am, dF ae, dF an2, dF ad2, dF am2, dF ae2, dF an3, dF ad3, dF an4, dF ad4, dF am4, dF ae4, ok40 an ad, ok40 am ae, ok40 an2 ad2, ok40 am2 ae2, ok40 an3 ad3, ok40 an4 ad4, ok40 am4 ae4]
  simp only [beq_self_eq_true, strEq_self, eq_self, decide_true]
  rfl
theorem products_walk (b : Bool) (n d : BA) (c : Bool) (m e : BA) (b2 : Bool) (n2 d2 : BA) (c2 : Bool) (m2 e2 : BA) (b3 : Bool) (n3 d3 : BA) (b4 : Bool) (n4 d4 : BA) (c4 : Bool) (m4 e4 : BA) (W : World) : Calls Tryz.prog 5 #[.agg #[.bool b, .string n, .string d, .bool c, .string m, .string e], .agg #[.bool b2, .string n2, .string d2, .bool c2, .string m2, .string e2], .agg #[.bool b3, .string n3, .string d3], .agg #[.bool b4, .string n4, .string d4, .bool c4, .string m4, .string e4]] W fun e w' => e = .returned (.bool true) ∧ Below W.heap.size W w' :=
  law_walk CPr_ok loops_none (by kernel_rfl) (products_true b c b2 c2 b4 c4 b3 n d m e n2 d2 m2 e2 n4 d4 m4 e4 n3 d3) W ⟨_, _, rfl, arg_pair _ _ b n d c m e, _, _, rfl, arg_pair _ _ b2 n2 d2 c2 m2 e2, _, _, rfl, arg_rat _ _ b3 n3 d3, _, _, rfl, arg_pair _ _ b4 n4 d4 c4 m4 e4, rfl⟩
end
end Go.Proofs.YtnmnglcdoegbiaaGreat.L
