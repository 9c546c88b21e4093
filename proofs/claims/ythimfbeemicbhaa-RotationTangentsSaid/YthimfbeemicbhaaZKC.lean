import Derived.Test.YthimfbeemicbhaaZKA
import Derived.Test.YthimfbeemicbhaaZKB
set_option linter.unusedVariables false
set_option linter.unusedSimpArgs false
namespace Go.Proofs.Ythimfbeemicbhaa.L
open Go Go.V Go.RowKit Go.Proofs.Ythimfbeemicbhaa.Sp Go.Proofs.Ythimfbeemicbhaa.F
open Go.Proofs (Try.prog)
noncomputable section
theorem rat_nil : sq0.rat 0 = .agg [.val (.bool false), .val (.string (ByteArray.mk #[])), .val (.string (ByteArray.mk #[]))] := rat_zero
theorem tk_n {k : Int} (x : Rat) (h : ¬ k = 0) : kg0.tk k x = 1 := if_neg h
theorem tk_0 (x : Rat) : kg0.tk 0 x = if 1 + x = 0 then 12 else 0 := (show (if (0 : Int) = 0 then (if 1 + x = 0 then (12 : Int) else 0) else 1) = (if 1 + x = 0 then (12 : Int) else 0) from if_pos rfl)
theorem sel_x (q : Rat) : kg0.sel 12 q = 0 := (show (if (12 : Int) = 0 then q else 0) = 0 from if_neg (by decide))
theorem eXTan : Entry Try.prog 9 (xKTan sq0 kg0) := by
  refine entry_of (E := ⟨CKx sg0 sq0 kg0, Kall, noL⟩) (u := 10) (d := 10) CKx_ok loops_none mixed (by kernel_rfl) (fun args r h => ?_)
  unfold xKTan k1 at h
  split at h
  · rename_i b n d c m e
    simp only [Option.some.injEq, Prod.mk.injEq, Bool.and_eq_true] at h
    obtain ⟨⟨h1, h2⟩, rfl⟩ := h
    have hcall := xtan_tree sg0 sq0 kg0 b c n d m e
    have z1 := ok6_sz (b := b) h1
    have z2 := ok6_sz (b := c) h2
    obtain ⟨o1, _⟩ := ok6_ok h1
    obtain ⟨o2, _⟩ := ok6_ok h2
    rw [h1, h2] at hcall
    simp only [qv_rat, qv_nil, Rat.zero_add, fr_11, qok_nil, sqz] at hcall
    have s1 := szq_one
    have s2 := szq_add 1 (sq0.qv b n d)
    rw [ok_rat (q := 1) (by omega), ok_rat (q := 1 + sq0.qv b n d) (by omega), o1, o2] at hcall
    rw [hcall]
    by_cases k1 : kg0.kc b n d c m e = 0
    · rw [dT k1, k1, tk_0]
      by_cases g : 1 + sq0.qv b n d = 0
      · rw [dT ((cq_zero _ _).2 g), if_pos g, sel_x, rat_nil]; rfl
      · rw [dF (fun h => g ((cq_zero _ _).1 h)), if_neg g, sel_0]; rfl
    · rw [dF k1, tk_n _ k1, sel_1, rat_nil]; rfl
  · cases h
end
end Go.Proofs.Ythimfbeemicbhaa.L
namespace Go.Proofs.Ythimfbeemicbhaa.L
open Go Go.V Go.RowKit Go.Proofs.Ythimfbeemicbhaa.Sp
open Go.Proofs (Try.prog)
noncomputable section
def CTn (Z : Qg) (K : Kg) : FuncId → TF := addC 7 (tKOf Z) (addC 8 (xKBack Z K) (addC 9 (xKTan Z K) (addC 10 (tKCheck K) (addC 11 (tQNeg Z) (addC 12 (tQCompare Z) (addC 6 tAwakeK noC))))))
theorem tangents_tree (Z : Qg) (K : Kg) (b0 b c : Bool) (n0 d0 n d m e : BA) : letI q_1 := (K.sel (K.tk (K.kc b n d c m e) (Z.qv b n d)) (Z.qv c m e / ((1 : Rat) + Z.qv b n d))); letI q_2 := (((1 : Rat) - Z.qv b0 n0 d0 * Z.qv b0 n0 d0) / ((1 : Rat) + Z.qv b0 n0 d0 * Z.qv b0 n0 d0)); letI q_3 := ((Z.qv b0 n0 d0 + Z.qv b0 n0 d0) / ((1 : Rat) + Z.qv b0 n0 d0 * Z.qv b0 n0 d0)); letI q_4 := ((1 : Rat) + Z.qv (Z.qn (-Z.qv b0 n0 d0)) (Z.qs (-Z.qv b0 n0 d0)) (Z.qd (-Z.qv b0 n0 d0)) * Z.qv (Z.qn (-Z.qv b0 n0 d0)) (Z.qs (-Z.qv b0 n0 d0)) (Z.qd (-Z.qv b0 n0 d0))); letI q_5 := (K.kc (Z.qn q_2) (Z.qs q_2) (Z.qd q_2) (Z.qn q_3) (Z.qs q_3) (Z.qd q_3)); letI q_6 := ((1 : Rat) + Z.qv (Z.qn q_1) (Z.qs q_1) (Z.qd q_1) * Z.qv (Z.qn q_1) (Z.qs q_1) (Z.qd q_1)); letI q_7 := (((1 : Rat) - Z.qv (Z.qn (-Z.qv b0 n0 d0)) (Z.qs (-Z.qv b0 n0 d0)) (Z.qd (-Z.qv b0 n0 d0)) * Z.qv (Z.qn (-Z.qv b0 n0 d0)) (Z.qs (-Z.qv b0 n0 d0)) (Z.qd (-Z.qv b0 n0 d0))) / q_4); letI q_8 := ((Z.qv (Z.qn (-Z.qv b0 n0 d0)) (Z.qs (-Z.qv b0 n0 d0)) (Z.qd (-Z.qv b0 n0 d0)) + Z.qv (Z.qn (-Z.qv b0 n0 d0)) (Z.qs (-Z.qv b0 n0 d0)) (Z.qd (-Z.qv b0 n0 d0))) / q_4); letI q_9 := (K.sel (K.tk q_5 (Z.qv (Z.qn q_2) (Z.qs q_2) (Z.qd q_2))) (Z.qv (Z.qn q_3) (Z.qs q_3) (Z.qd q_3) / ((1 : Rat) + Z.qv (Z.qn q_2) (Z.qs q_2) (Z.qd q_2)))); letI q_10 := (((1 : Rat) - Z.qv (Z.qn q_1) (Z.qs q_1) (Z.qd q_1) * Z.qv (Z.qn q_1) (Z.qs q_1) (Z.qd q_1)) / q_6); letI q_11 := ((Z.qv (Z.qn q_1) (Z.qs q_1) (Z.qd q_1) + Z.qv (Z.qn q_1) (Z.qs q_1) (Z.qd q_1)) / q_6); letI q_12 := (K.sel (K.or1 q_5) (-Z.qv (Z.qn q_3) (Z.qs q_3) (Z.qd q_3))); letI q_13 := (K.sel (K.or1 q_5) (Z.qv (Z.qn q_2) (Z.qs q_2) (Z.qd q_2)));
    (callA Try.prog ⟨CTn Z K, Kall, noL⟩ 10 10 3 [av3 b0 n0 d0, av6 b n d c m e] = (bif decide ((40 : Int) < (↑(ByteArray.size n0) : Int)) then some (.val (.bool true)) else (bif decide ((40 : Int) < (↑(ByteArray.size d0) : Int)) then some (.val (.bool true)) else (bif decide ((40 : Int) < (↑(ByteArray.size n) : Int)) then some (.val (.bool true)) else (bif decide ((40 : Int) < (↑(ByteArray.size d) : Int)) then some (.val (.bool true)) else (bif decide ((40 : Int) < (↑(ByteArray.size m) : Int)) then some (.val (.bool true)) else (bif decide ((40 : Int) < (↑(ByteArray.size e) : Int)) then some (.val (.bool true)) else (bif ok6 n0 d0 then (bif ok6 (Z.qs q_2) (Z.qd q_2) && ok6 (Z.qs q_3) (Z.qd q_3) then (bif ok6 (Z.qs q_2) (Z.qd q_2) && ok6 (Z.qs q_3) (Z.qd q_3) then (bif ok6 (Z.qs q_2) (Z.qd q_2) && ok6 (Z.qs q_3) (Z.qd q_3) then (bif !decide (K.kc (Z.qn q_2) (Z.qs q_2) (Z.qd q_2) (Z.qn q_3) (Z.qs q_3) (Z.qd q_3) = (0 : Int)) then some (.val (.bool false)) else (bif !decide (K.or1 q_5 = (0 : Int)) then some (.val (.bool false)) else (bif !decide (K.tk q_5 (Z.qv (Z.qn q_2) (Z.qs q_2) (Z.qd q_2)) = (0 : Int)) then some (.val (.bool false)) else (bif Z.ok n0 d0 then (bif ok6 (Z.qs (-Z.qv b0 n0 d0)) (Z.qd (-Z.qv b0 n0 d0)) then (bif bif true then !(Z.qn q_7 == Z.qn q_13 && (strEq (Z.qs q_7) (Z.qs q_13) && (strEq (Z.qd q_7) (Z.qd q_13) && true)) && (Z.qn q_8 == Z.qn q_12 && (strEq (Z.qs q_8) (Z.qs q_12) && (strEq (Z.qd q_8) (Z.qd q_12) && true)) && true)) else Z.qn q_7 == Z.qn q_13 && (strEq (Z.qs q_7) (Z.qs q_13) && (strEq (Z.qd q_7) (Z.qd q_13) && true)) && (Z.qn q_8 == Z.qn q_12 && (strEq (Z.qs q_8) (Z.qs q_12) && (strEq (Z.qd q_8) (Z.qd q_12) && true)) && true) then some (.val (.bool false)) else (bif Z.ok (Z.qs q_9) (Z.qd q_9) && Z.ok n0 d0 then (bif !decide (Z.cq (Z.qv (Z.qn q_9) (Z.qs q_9) (Z.qd q_9)) (Z.qv b0 n0 d0) = (0 : Int)) then some (.val (.bool false)) else (bif ok6 n d && ok6 m e then (bif !decide (K.tk (K.kc b n d c m e) (Z.qv b n d) = (0 : Int)) then (bif ok6 n d && ok6 m e then (bif bif false then !decide (K.tk (K.kc b n d c m e) (Z.qv b n d) = (1 : Int)) == !decide (K.kc b n d c m e = (0 : Int)) else decide (K.tk (K.kc b n d c m e) (Z.qv b n d) = (1 : Int)) == !decide (K.kc b n d c m e = (0 : Int)) then some (.val (.bool true)) else some (.val (.bool false))) else none) else (bif ok6 (Z.qs q_1) (Z.qd q_1) then (bif bif false then !(Z.qn q_10 == b && (strEq (Z.qs q_10) n && (strEq (Z.qd q_10) d && true)) && (Z.qn q_11 == c && (strEq (Z.qs q_11) m && (strEq (Z.qd q_11) e && true)) && true)) else Z.qn q_10 == b && (strEq (Z.qs q_10) n && (strEq (Z.qd q_10) d && true)) && (Z.qn q_11 == c && (strEq (Z.qs q_11) m && (strEq (Z.qd q_11) e && true)) && true) then some (.val (.bool true)) else some (.val (.bool false))) else none)) else none)) else none)) else none) else none)))) else none) else none) else none) else none)))))))) := by kernel_rfl
end
end Go.Proofs.Ythimfbeemicbhaa.L
namespace Go.Proofs.Ythimfbeemicbhaa.L
open Go Go.V Go.RowKit Go.Proofs.Ythimfbeemicbhaa.Sp Go.Proofs.Ythimfbeemicbhaa.F
open Go.Proofs (Try.prog)
noncomputable section
theorem CTn_ok : Meets Try.prog (CTn sq0 kg0) := (((((((meets_none _).add eAwakeK).add eQCompare).add eQNeg).add eKCheck).add eXTan).add eXBack).add eKOf
theorem ok40 {n d : BA} (h1 : ¬ (40 : Int) < n.size) (h2 : ¬ (40 : Int) < d.size) : ok6 n d = true := by
  unfold ok6
  rw [decide_eq_true (show n.size ≤ 1000000 by omega), decide_eq_true (show d.size ≤ 1000000 by omega)]; rfl
theorem sz40v (b : Bool) {n d : BA} (h1 : ¬ (40 : Int) < n.size) (h2 : ¬ (40 : Int) < d.size) : szq (sq0.qv b n d) ≤ 40 := by
  have := szq_val b n d
  omega
theorem of1_neg (t : Rat) : of1 (-t) = of1 t := by unfold of1; rw [show -t * -t = t * t by grind]
theorem of2_neg (t : Rat) : of2 (-t) = -of2 t := by
  unfold of2
  rw [show -t * -t = t * t by grind]
  have := sqr_nn t
  have h : 1 + t * t ≠ 0 := by grind
  grind
theorem one_of1 (t : Rat) : 1 + of1 t ≠ 0 := by
  have := sqr_nn t
  have h : 1 + t * t ≠ 0 := by grind
  have e : (1 + of1 t) * (1 + t * t) = 2 := by unfold of1; grind
  intro h0
  rw [h0, Rat.zero_mul] at e
  exact absurd e (by decide +kernel)
theorem tan_of (t : Rat) : of2 t / (1 + of1 t) = t := by
  have h1 := one_of1 t
  have := sqr_nn t
  have h : 1 + t * t ≠ 0 := by grind
  have e : of2 t = t * (1 + of1 t) := by unfold of2 of1; grind
  rw [e]
  exact Rat.mul_div_cancel h1
theorem of_tan {x y : Rat} (h : x * x + y * y = 1) (hx : 1 + x ≠ 0) : of1 (y / (1 + x)) = x ∧ of2 (y / (1 + x)) = y := by
  have e : y / (1 + x) * (1 + x) = y := Rat.div_mul_cancel hx
  generalize y / (1 + x) = v at *
  have := sqr_nn v
  have hp : 1 + v * v ≠ 0 := by grind
  have e1 : (1 + v * v) * (1 + x) = 2 := by
    have : (1 + x) * ((1 + v * v) * (1 + x)) = (1 + x) * 2 := by
      have : (1 + x) * ((1 + v * v) * (1 + x)) = (1 + x) * (1 + x) + (v * (1 + x)) * (v * (1 + x)) := by grind
      rw [this, e]; grind
    grind
  have e2 : 1 - v * v = x * (1 + v * v) := by grind
  have e3 : v + v = y * (1 + v * v) := by
    have : y * (1 + v * v) = v * ((1 + v * v) * (1 + x)) := by rw [← e]; grind
    rw [this, e1]; grind
  unfold of1 of2
  rw [e2, e3]
  exact ⟨Rat.mul_div_cancel hp, Rat.mul_div_cancel hp⟩
theorem tangents_true (b0 b c : Bool) (n0 d0 n d m e : BA) : callA Try.prog ⟨CTn sq0 kg0, Kall, noL⟩ 10 10 3 [av3 b0 n0 d0, av6 b n d c m e] = some (.val (.bool true)) := by
  have htree := tangents_tree sq0 kg0 b0 b c n0 d0 n d m e
  rw [htree]
  clear htree
  by_cases a1 : (40 : Int) < n0.size
  · rw [dT a1]; rfl
  by_cases a2 : (40 : Int) < d0.size
  · rw [dF a1, dT a2]; rfl
  by_cases a3 : (40 : Int) < n.size
  · rw [dF a1, dF a2, dT a3]; rfl
  by_cases a4 : (40 : Int) < d.size
  · rw [dF a1, dF a2, dF a3, dT a4]; rfl
  by_cases a5 : (40 : Int) < m.size
  · rw [dF a1, dF a2, dF a3, dF a4, dT a5]; rfl
  by_cases a6 : (40 : Int) < e.size
  · rw [dF a1, dF a2, dF a3, dF a4, dF a5, dT a6]; rfl
  have o0 := ok40 a1 a2
  have o1 := ok40 a3 a4
  have o2 := ok40 a5 a6
  have z0 := sz40v b0 a1 a2
  have z1 := sz40v b a3 a4
  have z2 := sz40v c a5 a6
  obtain ⟨p0, _⟩ := ok6_ok o0
  rw [dF a1, dF a2, dF a3, dF a4, dF a5, dF a6]
  clear a1 a2 a3 a4 a5 a6
  simp only [qv_rat, cond_true, cond_false, cqz]
  generalize sq0.qv b0 n0 d0 = t at *
  have f1 : (1 - t * t) / (1 + t * t) = of1 t := rfl
  have f2 : (t + t) / (1 + t * t) = of2 t := rfl
  have f3 : (1 - -t * -t) / (1 + -t * -t) = of1 t := of1_neg t
  have f4 : (-t + -t) / (1 + -t * -t) = -of2 t := of2_neg t
  have s0 := szq_one
  have s1 := szq_mul t t
  have s2 := szq_add 1 (t * t)
  have s3 := szq_sub 1 (t * t)
  have s4 := szq_add t t
  have s5 := szq_div (1 - t * t) (1 + t * t)
  have s6 := szq_div (t + t) (1 + t * t)
  rw [f1] at s5
  rw [f2] at s6
  have s7 := szq_neg t
  have w1 := ok6_rat (q := of1 t) (by omega)
  have w2 := ok6_rat (q := of2 t) (by omega)
  have w3 := ok6_rat (q := -t) (by omega)
  have w4 := ok_rat (q := t) (by omega)
  have k0 : kg0.kc (sq0.qn (of1 t)) (sq0.qs (of1 t)) (sq0.qd (of1 t)) (sq0.qn (of2 t)) (sq0.qs (of2 t)) (sq0.qd (of2 t)) = 0 := by rw [kc_pair, if_pos (unit_of t)]
  have k1 : kg0.tk 0 (of1 t) = 0 := by rw [tk_0, if_neg (one_of1 t)]
  have k2 : kg0.or1 0 = 0 := rfl
  simp only [f1, f2, f3, f4, k0, k1, k2, sel_0, tan_of, w1, w2, w3, w4, o0, o1, o2, p0, Bool.and_self, cond_true, beq_self_eq_true, strEq_self, decide_true, Bool.not_true, cond_false, (cq_zero t t).2 rfl]
  by_cases g1 : kg0.kc b n d c m e = 0
  · obtain ⟨x, y, u1, rfl, rfl, rfl, rfl, rfl, rfl⟩ := kc_canon g1
    rw [qv_rat] at z1 z2
    simp only [qv_rat, g1]
    by_cases g2 : 1 + x = 0
    · have k3 : kg0.tk 0 x = 12 := by rw [tk_0, if_pos g2]
      rw [k3]; rfl
    · have k3 : kg0.tk 0 x = 0 := by rw [tk_0, if_neg g2]
      obtain ⟨h1, h2⟩ := of_tan u1 g2
      have h1' : (1 - y / (1 + x) * (y / (1 + x))) / (1 + y / (1 + x) * (y / (1 + x))) = x := h1
      have h2' : (y / (1 + x) + y / (1 + x)) / (1 + y / (1 + x) * (y / (1 + x))) = y := h2
      have s8 := szq_add 1 x
      have s9 := szq_div y (1 + x)
      have w5 := ok6_rat (q := y / (1 + x)) (by omega)
      simp only [k3, sel_0, h1', h2', w5, beq_self_eq_true, strEq_self, decide_true, Bool.and_self, Bool.not_true, cond_true, cond_false]
  · have k3 : kg0.tk (kg0.kc b n d c m e) (sq0.qv b n d) = 1 := tk_n _ g1
    rw [k3, dF g1]; rfl
theorem arg_pair (B : Nat → Prop) (w : World) (b : Bool) (n d : BA) (c : Bool) (m e : BA) : (AV.agg [.val (.bool b), .val (.string n), .val (.string d), .val (.bool c), .val (.string m), .val (.string e)]).Rel Try.prog NoA B w NoD (.agg #[.bool b, .string n, .string d, .bool c, .string m, .string e]) := ⟨_, rfl, _, _, rfl, rfl, _, _, rfl, rfl, _, _, rfl, rfl, _, _, rfl, rfl, _, _, rfl, rfl, _, _, rfl, rfl, rfl⟩
theorem tangents_walk (b0 : Bool) (n0 d0 : ByteArray) (b : Bool) (n d : ByteArray) (c : Bool) (m e : ByteArray) (W : World) : Calls Try.prog 3 #[.agg #[.bool b0, .string n0, .string d0], .agg #[.bool b, .string n, .string d, .bool c, .string m, .string e]] W fun e w' => e = .returned (.bool true) ∧ Below W.heap.size W w' :=
  law_walk CTn_ok loops_none (by kernel_rfl) (tangents_true b0 b c n0 d0 n d m e) W ⟨_, _, rfl, arg_rat _ _ b0 n0 d0, _, _, rfl, arg_pair _ _ b n d c m e, rfl⟩
end
end Go.Proofs.Ythimfbeemicbhaa.L
