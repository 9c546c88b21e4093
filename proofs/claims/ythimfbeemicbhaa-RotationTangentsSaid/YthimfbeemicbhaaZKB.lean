import Derived.Test.YthimfbeemicbhaaZKA
set_option linter.unusedVariables false
set_option linter.unusedSimpArgs false
namespace Go.Proofs.Ythimfbeemicbhaa.L
open Go Go.V Go.RowKit Go.Proofs.Ythimfbeemicbhaa.Sp
open Go.Proofs (Try.prog)
noncomputable section
def vK2 (Z : Qg) (K : Kg) (f : Rat → Rat → Rat → Rat → AV) : TF := k2 fun b n d c m e b2 n2 d2 c2 m2 e2 => some (ok6 n d && ok6 m e && decide (K.kc b n d c m e = 0) && (ok6 n2 d2 && ok6 m2 e2 && decide (K.kc b2 n2 d2 c2 m2 e2 = 0)), f (Z.qv b n d) (Z.qv c m e) (Z.qv b2 n2 d2) (Z.qv c2 m2 e2))
def ok5 (n d : BA) : Bool := decide (n.size ≤ 10000) && decide (d.size ≤ 10000)
def vM2 (Z : Qg) (K : Kg) (f : Rat → Rat → Rat → Rat → AV) : TF := k2 fun b n d c m e b2 n2 d2 c2 m2 e2 => some (ok5 n d && ok5 m e && decide (K.kc b n d c m e = 0) && (ok5 n2 d2 && ok5 m2 e2 && decide (K.kc b2 n2 d2 c2 m2 e2 = 0)), f (Z.qv b n d) (Z.qv c m e) (Z.qv b2 n2 d2) (Z.qv c2 m2 e2))
def vKQ (Z : Qg) (K : Kg) (f : Rat → Rat → Rat → Rat → Rat → Rat → AV) : TF := k3 fun b n d c m e b2 n2 d2 c2 m2 e2 b3 n3 d3 c3 m3 e3 => some (ok5 n d && ok5 m e && decide (K.kc b n d c m e = 0) && (ok5 n2 d2 && ok5 m2 e2 && decide (K.kc b2 n2 d2 c2 m2 e2 = 0)) && (ok5 n3 d3 && ok5 m3 e3), f (Z.qv b n d) (Z.qv c m e) (Z.qv b2 n2 d2) (Z.qv c2 m2 e2) (Z.qv b3 n3 d3) (Z.qv c3 m3 e3))
abbrev okE (v : AV) : AV := .tup [v, .val (.int .i64 0)]
def vThen (Z : Qg) (K : Kg) : TF := vK2 Z K fun x y u v => okE (Z.pair (x * u - y * v) (y * u + x * v))
def vMiddle (Z : Qg) (K : Kg) : TF := vM2 Z K fun x y u v => .tup [Z.pair (K.sel (K.mk1 0 0 x y u v) (K.m1 x y u v)) (K.sel (K.mk1 0 0 x y u v) (K.m2 x y u v)), .val (.int .i64 (K.mk1 0 0 x y u v))]
def vCorner (Z : Qg) (K : Kg) : TF := vKQ Z K fun x y u v p q => .tup [Z.pair (K.sel (K.ck 0 0 x y u v) (K.c1 x y u v p q)) (K.sel (K.ck 0 0 x y u v) (K.c2 x y u v p q)), .val (.int .i64 (K.ck 0 0 x y u v))]
def CAwK (X : Xg) (Z : Qg) (K : Kg) : FuncId → TF := addC 34 (tQRatio X Z) (addC 7 (tKOf Z) (addC 14 (vThen Z K) (addC 15 (vCorner Z K) (addC 17 (vMiddle Z K) (addC 16 (xKNone Z) noC)))))
theorem awk_tree (X : Xg) (Z : Qg) (K : Kg) : letI q_1 := (Z.fr (1 : Int) (2 : Int)); letI q_22 := ((1 : Rat) + Z.qv (Z.qn q_1) (Z.qs q_1) (Z.qd q_1) * Z.qv (Z.qn q_1) (Z.qs q_1) (Z.qd q_1)); letI q_2 := (((1 : Rat) - Z.qv (Z.qn q_1) (Z.qs q_1) (Z.qd q_1) * Z.qv (Z.qn q_1) (Z.qs q_1) (Z.qd q_1)) / q_22); letI q_3 := ((Z.qv (Z.qn q_1) (Z.qs q_1) (Z.qd q_1) + Z.qv (Z.qn q_1) (Z.qs q_1) (Z.qd q_1)) / q_22); letI q_10 := (Z.fr (1 : Int) (1 : Int)); letI q_4 := (Z.qv (Z.qn q_10) (Z.qs q_10) (Z.qd q_10)); letI q_5 := (Z.qv false (ByteArray.mk #[]) (ByteArray.mk #[])); letI q_6 := (Z.qv (Z.qn (1 : Rat)) (Z.qs (1 : Rat)) (Z.qd (1 : Rat))); letI q_7 := (Z.qv (Z.qn (0 : Rat)) (Z.qs (0 : Rat)) (Z.qd (0 : Rat))); letI q_8 := (Z.qv (Z.qn q_2) (Z.qs q_2) (Z.qd q_2) * Z.qv (Z.qn q_2) (Z.qs q_2) (Z.qd q_2) - Z.qv (Z.qn q_3) (Z.qs q_3) (Z.qd q_3) * Z.qv (Z.qn q_3) (Z.qs q_3) (Z.qd q_3)); letI q_9 := (Z.qv (Z.qn q_3) (Z.qs q_3) (Z.qd q_3) * Z.qv (Z.qn q_2) (Z.qs q_2) (Z.qd q_2) + Z.qv (Z.qn q_2) (Z.qs q_2) (Z.qd q_2) * Z.qv (Z.qn q_3) (Z.qs q_3) (Z.qd q_3)); letI q_11 := (K.mk1 (0 : Int) (0 : Int) q_6 q_7 q_5 q_4); letI q_12 := (K.ck (0 : Int) (0 : Int) q_6 q_7 q_5 q_4); letI q_13 := (K.sel q_12 (K.c1 q_6 q_7 q_5 q_4 q_4 q_5)); letI q_14 := (K.sel q_12 (K.c2 q_6 q_7 q_5 q_4 q_4 q_5)); letI q_15 := (K.sel q_11 (K.m1 q_6 q_7 q_5 q_4)); letI q_16 := (K.sel q_11 (K.m2 q_6 q_7 q_5 q_4)); letI q_17 := (ok5 (Z.qs q_10) (Z.qd q_10) && decide (K.kc false (ByteArray.mk #[]) (ByteArray.mk #[]) (Z.qn q_10) (Z.qs q_10) (Z.qd q_10) = (0 : Int))); letI q_18 := (Z.fr (-7 : Int) (25 : Int)); letI q_19 := (Z.fr (24 : Int) (25 : Int)); letI q_20 := (strEq (Z.qs q_2) (Z.qs (Z.fr (3 : Int) (5 : Int))) && (strEq (Z.qd q_2) (Z.qd (Z.fr (3 : Int) (5 : Int))) && true)); letI q_21 := (strEq (Z.qs q_3) (Z.qs (Z.fr (4 : Int) (5 : Int))) && (strEq (Z.qd q_3) (Z.qd (Z.fr (4 : Int) (5 : Int))) && true));
    (callA Try.prog ⟨CAwK X Z K, Kall, noL⟩ 10 10 6 [] = (bif ok6 (Z.qs q_1) (Z.qd q_1) then (bif ok6 (Z.qs q_2) (Z.qd q_2) && ok6 (Z.qs q_3) (Z.qd q_3) && decide (K.kc (Z.qn q_2) (Z.qs q_2) (Z.qd q_2) (Z.qn q_3) (Z.qs q_3) (Z.qd q_3) = (0 : Int)) && (ok6 (Z.qs q_2) (Z.qd q_2) && ok6 (Z.qs q_3) (Z.qd q_3) && decide (K.kc (Z.qn q_2) (Z.qs q_2) (Z.qd q_2) (Z.qn q_3) (Z.qs q_3) (Z.qd q_3) = (0 : Int))) then (bif ok5 (Z.qs (1 : Rat)) (Z.qd (1 : Rat)) && ok5 (Z.qs (0 : Rat)) (Z.qd (0 : Rat)) && decide (K.kc (Z.qn (1 : Rat)) (Z.qs (1 : Rat)) (Z.qd (1 : Rat)) (Z.qn (0 : Rat)) (Z.qs (0 : Rat)) (Z.qd (0 : Rat)) = (0 : Int)) && q_17 && (ok5 (Z.qs q_10) (Z.qd q_10) && true) then (bif ok5 (Z.qs (1 : Rat)) (Z.qd (1 : Rat)) && ok5 (Z.qs (0 : Rat)) (Z.qd (0 : Rat)) && decide (K.kc (Z.qn (1 : Rat)) (Z.qs (1 : Rat)) (Z.qd (1 : Rat)) (Z.qn (0 : Rat)) (Z.qs (0 : Rat)) (Z.qd (0 : Rat)) = (0 : Int)) && q_17 then (bif decide (K.ck (0 : Int) (0 : Int) q_6 q_7 q_5 q_4 = (0 : Int)) then (bif decide (K.mk1 (0 : Int) (0 : Int) q_6 q_7 q_5 q_4 = (0 : Int)) then (bif bif false then !(Z.qn q_2 == Z.qn (Z.fr (3 : Int) (5 : Int)) && q_20 && (Z.qn q_3 == Z.qn (Z.fr (4 : Int) (5 : Int)) && q_21 && true)) else Z.qn q_2 == Z.qn (Z.fr (3 : Int) (5 : Int)) && q_20 && (Z.qn q_3 == Z.qn (Z.fr (4 : Int) (5 : Int)) && q_21 && true) then (bif bif false then !(Z.qn q_8 == Z.qn q_18 && (strEq (Z.qs q_8) (Z.qs q_18) && (strEq (Z.qd q_8) (Z.qd q_18) && true)) && (Z.qn q_9 == Z.qn q_19 && (strEq (Z.qs q_9) (Z.qs q_19) && (strEq (Z.qd q_9) (Z.qd q_19) && true)) && true)) else Z.qn q_8 == Z.qn q_18 && (strEq (Z.qs q_8) (Z.qs q_18) && (strEq (Z.qd q_8) (Z.qd q_18) && true)) && (Z.qn q_9 == Z.qn q_19 && (strEq (Z.qs q_9) (Z.qs q_19) && (strEq (Z.qd q_9) (Z.qd q_19) && true)) && true) then (bif bif false then !(Z.qn q_13 == Z.qn q_10 && (strEq (Z.qs q_13) (Z.qs q_10) && (strEq (Z.qd q_13) (Z.qd q_10) && true)) && (Z.qn q_14 == Z.qn q_10 && (strEq (Z.qs q_14) (Z.qs q_10) && (strEq (Z.qd q_14) (Z.qd q_10) && true)) && true)) else Z.qn q_13 == Z.qn q_10 && (strEq (Z.qs q_13) (Z.qs q_10) && (strEq (Z.qd q_13) (Z.qd q_10) && true)) && (Z.qn q_14 == Z.qn q_10 && (strEq (Z.qs q_14) (Z.qs q_10) && (strEq (Z.qd q_14) (Z.qd q_10) && true)) && true) then some (.val (.bool (bif false then !(Z.qn q_15 == Z.qn q_2 && (strEq (Z.qs q_15) (Z.qs q_2) && (strEq (Z.qd q_15) (Z.qd q_2) && true)) && (Z.qn q_16 == Z.qn q_3 && (strEq (Z.qs q_16) (Z.qs q_3) && (strEq (Z.qd q_16) (Z.qd q_3) && true)) && true)) else Z.qn q_15 == Z.qn q_2 && (strEq (Z.qs q_15) (Z.qs q_2) && (strEq (Z.qd q_15) (Z.qd q_2) && true)) && (Z.qn q_16 == Z.qn q_3 && (strEq (Z.qs q_16) (Z.qs q_3) && (strEq (Z.qd q_16) (Z.qd q_3) && true)) && true)))) else some (.val (.bool false))) else some (.val (.bool false))) else some (.val (.bool false))) else some (.val (.bool false))) else some (.val (.bool false))) else none) else none) else none) else none)) := by kernel_rfl
def tAwakeK : TF := fun args => match args with | [] => some (true, .val (.bool true)) | _ => none
end
end Go.Proofs.Ythimfbeemicbhaa.L
namespace Go.Proofs.Ythimfbeemicbhaa.L
open Go Go.V Go.RowKit Go.Proofs.Ythimfbeemicbhaa.Sp Go.Proofs.Ythimfbeemicbhaa.F
open Go.Proofs (Try.prog)
noncomputable section
theorem eVThen : Entry Try.prog 14 (vThen sq0 kg0) := entry_less eXThen fun args r h => by
  unfold vThen vK2 k2 at h
  split at h
  · simp only [Option.some.injEq, Prod.mk.injEq, Bool.and_eq_true, decide_eq_true_eq] at h
    obtain ⟨⟨⟨⟨h1, h2⟩, g1⟩, ⟨h3, h4⟩, g2⟩, rfl⟩ := h
    unfold xKThen k2
    simp only [h1, h2, h3, h4, g1, g2]
    rfl
  · cases h
theorem ok5_6 {n d : BA} (h : ok5 n d = true) : ok6 n d = true := by
  unfold ok5 at h
  unfold ok6
  rw [Bool.and_eq_true, decide_eq_true_eq, decide_eq_true_eq] at h ⊢
  omega
theorem ok5_sz {b : Bool} {n d : BA} (h : ok5 n d = true) : szq (sq0.qv b n d) ≤ 10000 := by
  unfold ok5 at h
  rw [Bool.and_eq_true, decide_eq_true_eq, decide_eq_true_eq] at h
  have := szq_val b n d
  omega
theorem ok5_rat {q : Rat} (h : szq q ≤ 10000) : ok5 (sq0.qs q) (sq0.qd q) = true := by
  unfold szq at h
  have h1 := size_qs q
  have h2 := size_qd q
  unfold ok5
  rw [decide_eq_true (show (sq0.qs q).size ≤ 10000 by omega), decide_eq_true (show (sq0.qd q).size ≤ 10000 by omega)]; rfl
theorem szq_d1 (x y u v : Rat) : szq (x * u - -y * v) ≤ szq x + szq y + szq u + szq v + 1 := by
  have s1 := szq_mul x u
  have s2 := szq_mul (-y) v
  have s3 := szq_sub (x * u) (-y * v)
  rw [szq_neg] at s2
  omega
theorem szq_d2 (x y u v : Rat) : szq (-y * u + x * v) ≤ szq x + szq y + szq u + szq v + 1 := by
  have s1 := szq_mul x v
  have s2 := szq_mul (-y) u
  have s3 := szq_add (-y * u) (x * v)
  rw [szq_neg] at s2
  omega
theorem szq_t1 (x y u v : Rat) : szq (x * u - y * v) ≤ szq x + szq y + szq u + szq v + 1 := by
  have s1 := szq_mul x u
  have s2 := szq_mul y v
  have s3 := szq_sub (x * u) (y * v)
  omega
theorem szq_t2 (x y u v : Rat) : szq (y * u + x * v) ≤ szq x + szq y + szq u + szq v + 1 := by
  have s1 := szq_mul x v
  have s2 := szq_mul y u
  have s3 := szq_add (y * u) (x * v)
  omega
theorem ck00 (x y u v : Rat) : kg0.ck 0 0 x y u v = if hfn (d1 x y u v) (d2 x y u v) = 1 then 2 else 0 := (show (if or2n 0 0 = 0 then (if hfn (d1 x y u v) (d2 x y u v) = 1 then (2 : Int) else 0) else 1) = (if hfn (d1 x y u v) (d2 x y u v) = 1 then (2 : Int) else 0) from if_pos (by decide))
theorem sel_2 (q : Rat) : kg0.sel 2 q = 0 := (show (if (2 : Int) = 0 then q else 0) = 0 from if_neg (by decide))
theorem eVCorner : Entry Try.prog 15 (vCorner sq0 kg0) := by
  refine entry_of (E := ⟨CKx sg0 sq0 kg0, Kall, noL⟩) (u := 10) (d := 10) CKx_ok loops_none mixed (by kernel_rfl) (fun args r h => ?_)
  unfold vCorner vKQ k3 at h
  split at h
  · rename_i b n d c m e b2 n2 dd c2 m2 e2 b3 n3 dd3 c3 m3 e3
    simp only [Option.some.injEq, Prod.mk.injEq, Bool.and_eq_true, decide_eq_true_eq] at h
    obtain ⟨⟨⟨⟨⟨h1, h2⟩, g1⟩, ⟨h3, h4⟩, g2⟩, ⟨h5, h6⟩⟩, rfl⟩ := h
    have hcall := xcorner_tree sg0 sq0 kg0 b c b2 c2 b3 c3 n d m e n2 dd m2 e2 n3 dd3 m3 e3
    have z1 := ok5_sz (b := b) h1
    have z2 := ok5_sz (b := c) h2
    have z3 := ok5_sz (b := b2) h3
    have z4 := ok5_sz (b := c2) h4
    have z5 := ok5_sz (b := b3) h5
    have z6 := ok5_sz (b := c3) h6
    rw [ok5_6 h1, ok5_6 h2, ok5_6 h3, ok5_6 h4, ok5_6 h5, ok5_6 h6, dT g1, dT g2] at hcall
    simp only [qv_rat, qv_nil, Rat.zero_add, fr_11, qok_nil] at hcall
    clear g1 g2
    rw [ck00]
    generalize sq0.qv b n d = x at *
    generalize sq0.qv c m e = y at *
    generalize sq0.qv b2 n2 dd = u at *
    generalize sq0.qv c2 m2 e2 = v at *
    generalize sq0.qv b3 n3 dd3 = p at *
    generalize sq0.qv c3 m3 e3 = q at *
    have s1 := szq_d1 x y u v
    have s2 := szq_d2 x y u v
    have s3 := szq_t1 x y p q
    have s4 := szq_t2 x y p q
    have s5 := szq_neg y
    have s6 := szq_t1 u v p q
    have s7 := szq_t2 u v p q
    have s8 := szq_one
    have s9 := szq_add 1 (x * u - -y * v)
    have s10 := szq_add (x * p - y * q) (u * p - v * q)
    have s11 := szq_add (y * p + x * q) (v * p + u * q)
    rw [ok6_rat (q := -y) (by omega), ok6_rat (q := x * u - -y * v) (by omega), ok6_rat (q := -y * u + x * v) (by omega)] at hcall
    by_cases hh : hfn (d1 x y u v) (d2 x y u v) = 1
    · rw [if_pos hh, sel_2, sel_2, pair_zero]
      rw [dT (show kg0.hf (x * u - -y * v) (-y * u + x * v) = 1 from hh)] at hcall
      exact hcall
    · rw [if_neg hh, sel_0, sel_0]
      rw [dF (show ¬ kg0.hf (x * u - -y * v) (-y * u + x * v) = 1 from hh), ok_rat (q := 1) (by omega), ok_rat (q := x * u - -y * v) (by omega), ok_rat (q := x * p - y * q) (by omega), ok_rat (q := u * p - v * q) (by omega), ok_rat (q := y * p + x * q) (by omega), ok_rat (q := v * p + u * q) (by omega), ok_rat (q := 1 + (x * u - -y * v)) (by omega), ok_rat (q := x * p - y * q + (u * p - v * q)) (by omega), ok_rat (q := y * p + x * q + (v * p + u * q)) (by omega)] at hcall
      exact hcall
  · cases h
end
end Go.Proofs.Ythimfbeemicbhaa.L
namespace Go.Proofs.Ythimfbeemicbhaa.L
open Go Go.V Go.RowKit Go.Proofs.Ythimfbeemicbhaa.Sp
open Go.Proofs (Try.prog)
noncomputable section
def vOf (Z : Qg) (K : Kg) : TF := k0 fun b n d => some (ok6 n d, Z.pair (K.o1 (Z.qv b n d)) (K.o2 (Z.qv b n d)))
def vTan (Z : Qg) (K : Kg) : TF := k1 fun b n d c m e => some (ok6 n d && ok6 m e && decide (K.kc b n d c m e = 0) && K.tn (Z.qv b n d), okE (Z.rat (K.th (Z.qv b n d) (Z.qv c m e))))
def CKm (S : Sg) (Z : Qg) (K : Kg) : FuncId → TF := addC 9 (vTan Z K) (addC 7 (vOf Z K) (CKx S Z K))
theorem xmiddle_tree (S : Sg) (Z : Qg) (K : Kg) (b c b2 c2 : Bool) (n d m e n2 d2 m2 e2 : BA) : letI y0 := (-Z.qv c m e); letI D1 := ((Z.qv b n d) * (Z.qv b2 n2 d2) - (Z.qv (Z.qn y0) (Z.qs y0) (Z.qd y0)) * (Z.qv c2 m2 e2)); letI D2 := ((Z.qv (Z.qn y0) (Z.qs y0) (Z.qd y0)) * (Z.qv b2 n2 d2) + (Z.qv b n d) * (Z.qv c2 m2 e2)); letI T := (K.th (Z.qv (Z.qn D1) (Z.qs D1) (Z.qd D1)) (Z.qv (Z.qn D2) (Z.qs D2) (Z.qd D2))); letI H := (Z.fr (3 : Int) (1 : Int)); letI Q1 := ((Z.qv (Z.qn T) (Z.qs T) (Z.qd T)) / (Z.qv (Z.qn H) (Z.qs H) (Z.qd H))); letI Q5 := ((Z.qv false (ByteArray.mk #[]) (ByteArray.mk #[])) + (Z.qv (Z.qn Q1) (Z.qs Q1) (Z.qd Q1))); letI Q8 := ((Z.qv (Z.qn Q5) (Z.qs Q5) (Z.qd Q5)) + (Z.qv (Z.qn Q1) (Z.qs Q1) (Z.qd Q1))); letI P := (Z.sp (Z.qv (Z.qn Q1) (Z.qs Q1) (Z.qd Q1)) (Z.qv (Z.qn Q8) (Z.qs Q8) (Z.qd Q8))); letI E := (K.o1 (Z.qv (Z.qn P) (Z.qs P) (Z.qd P))); letI F := (K.o2 (Z.qv (Z.qn P) (Z.qs P) (Z.qd P))); letI M1 := ((Z.qv b n d) * (Z.qv (Z.qn E) (Z.qs E) (Z.qd E)) - (Z.qv c m e) * (Z.qv (Z.qn F) (Z.qs F) (Z.qd F))); letI M2 := ((Z.qv c m e) * (Z.qv (Z.qn E) (Z.qs E) (Z.qd E)) + (Z.qv b n d) * (Z.qv (Z.qn F) (Z.qs F) (Z.qd F))); letI N9 := (Z.fr (1 : Int) (1 : Int)); letI R1 := ((Z.qv b n d) * (Z.qv false (ByteArray.mk #[]) (ByteArray.mk #[])) - (Z.qv c m e) * (Z.qv (Z.qn N9) (Z.qs N9) (Z.qd N9))); letI R2 := ((Z.qv c m e) * (Z.qv false (ByteArray.mk #[]) (ByteArray.mk #[])) + (Z.qv b n d) * (Z.qv (Z.qn N9) (Z.qs N9) (Z.qd N9)));
    (callA Try.prog ⟨CKm S Z K, Kall, noL⟩ 10 10 17 [av6 b n d c m e, av6 b2 n2 d2 c2 m2 e2] = (bif ok6 n d && ok6 m e then (bif !decide (K.kc b n d c m e = (0 : Int)) then some (.tup [(.agg [(.val (.bool false)), (.val (.string (ByteArray.mk #[]))), (.val (.string (ByteArray.mk #[]))), (.val (.bool false)), (.val (.string (ByteArray.mk #[]))), (.val (.string (ByteArray.mk #[])))]), (.val (.int .i64 1))]) else (bif ok6 n2 d2 && ok6 m2 e2 then (bif !decide (K.kc b2 n2 d2 c2 m2 e2 = (0 : Int)) then some (.tup [(.agg [(.val (.bool false)), (.val (.string (ByteArray.mk #[]))), (.val (.string (ByteArray.mk #[]))), (.val (.bool false)), (.val (.string (ByteArray.mk #[]))), (.val (.string (ByteArray.mk #[])))]), (.val (.int .i64 1))]) else (bif bif false then !(b == b2 && (strEq n n2 && (strEq d d2 && true)) && (c == c2 && (strEq m m2 && (strEq e e2 && true)) && true)) else b == b2 && (strEq n n2 && (strEq d d2 && true)) && (c == c2 && (strEq m m2 && (strEq e e2 && true)) && true) then some (.tup [(.agg [(.val (.bool false)), (.val (.string (ByteArray.mk #[]))), (.val (.string (ByteArray.mk #[]))), (.val (.bool false)), (.val (.string (ByteArray.mk #[]))), (.val (.string (ByteArray.mk #[])))]), (.val (.int .i64 12))]) else (bif ok6 n d && ok6 m e then (bif ok6 n d && ok6 (Z.qs y0) (Z.qd y0) && ok6 n2 d2 && ok6 m2 e2 then (bif ok6 (Z.qs D1) (Z.qd D1) && ok6 (Z.qs D2) (Z.qd D2) then (bif decide (K.hf (Z.qv (Z.qn D1) (Z.qs D1) (Z.qd D1)) (Z.qv (Z.qn D2) (Z.qs D2) (Z.qd D2)) = (1 : Int)) then (bif ok6 n d && ok6 m e && true && ok6 (Z.qs N9) (Z.qd N9) then some (.tup [(Z.pair R1 R2), (.val (.int .i64 0))]) else none) else (bif ok6 (Z.qs D1) (Z.qd D1) && ok6 (Z.qs D2) (Z.qd D2) && decide (K.kc (Z.qn D1) (Z.qs D1) (Z.qd D1) (Z.qn D2) (Z.qs D2) (Z.qd D2) = (0 : Int)) && K.tn (Z.qv (Z.qn D1) (Z.qs D1) (Z.qd D1)) then (bif Z.ok (Z.qs T) (Z.qd T) && Z.ok (Z.qs H) (Z.qd H) then (bif Z.ok (ByteArray.mk #[]) (ByteArray.mk #[]) && Z.ok (Z.qs Q1) (Z.qd Q1) then (bif Z.ok (Z.qs Q5) (Z.qd Q5) && Z.ok (Z.qs Q1) (Z.qd Q1) then (bif Z.oks (Z.qs Q1) (Z.qd Q1) && Z.oks (Z.qs Q8) (Z.qd Q8) then (bif ok6 (Z.qs P) (Z.qd P) then (bif ok6 n d && ok6 m e && ok6 (Z.qs E) (Z.qd E) && ok6 (Z.qs F) (Z.qd F) then some (.tup [(Z.pair M1 M2), (.val (.int .i64 0))]) else none) else none) else none) else none) else none) else none) else none)) else none) else none) else none))) else none)) else none)) := by kernel_rfl
end
end Go.Proofs.Ythimfbeemicbhaa.L
namespace Go.Proofs.Ythimfbeemicbhaa.L
open Go Go.V Go.RowKit Go.Proofs.Ythimfbeemicbhaa.Sp Go.Proofs.Ythimfbeemicbhaa.F
open Go.Proofs (Try.prog)
noncomputable section
theorem eVOf : Entry Try.prog 7 (vOf sq0 kg0) := entry_less eKOf fun args r h => by
  unfold vOf k0 at h
  split at h
  · exact h
  · cases h
theorem eVTan : Entry Try.prog 9 (vTan sq0 kg0) := by
  refine entry_of (E := ⟨CKx sg0 sq0 kg0, Kall, noL⟩) (u := 10) (d := 10) CKx_ok loops_none mixed (by kernel_rfl) (fun args r h => ?_)
  unfold vTan k1 at h
  split at h
  · rename_i b n d c m e
    simp only [Option.some.injEq, Prod.mk.injEq, Bool.and_eq_true, decide_eq_true_eq] at h
    obtain ⟨⟨⟨⟨h1, h2⟩, g1⟩, g2⟩, rfl⟩ := h
    have hcall := xtan_tree sg0 sq0 kg0 b c n d m e
    have z1 := ok6_sz (b := b) h1
    have z2 := ok6_sz (b := c) h2
    obtain ⟨o1, _⟩ := ok6_ok h1
    obtain ⟨o2, _⟩ := ok6_ok h2
    rw [h1, h2, dT g1] at hcall
    simp only [qv_rat, qv_nil, Rat.zero_add, fr_11, qok_nil, sqz] at hcall
    clear g1
    generalize sq0.qv b n d = x at *
    generalize sq0.qv c m e = y at *
    have g3 : ¬ 1 + x = 0 := by
      have g2 : decide (1 + x ≠ 0) = true := g2
      rwa [decide_eq_true_eq] at g2
    have s1 := szq_one
    have s2 := szq_add 1 x
    rw [ok_rat (q := 1) (by omega), ok_rat (q := 1 + x) (by omega), o1, o2, dF (fun h => g3 ((cq_zero _ _).1 h))] at hcall
    exact hcall
  · cases h
theorem CKm_ok : Meets Try.prog (CKm sg0 sq0 kg0) := (CKx_ok.add eVOf).add eVTan
theorem mk00 (x y u v : Rat) : kg0.mk1 0 0 x y u v = if x = u ∧ y = v then 12 else 0 := (show (if or2n 0 0 = 0 then (if x = u ∧ y = v then (12 : Int) else 0) else 1) = (if x = u ∧ y = v then (12 : Int) else 0) from if_pos (by decide))
theorem sel_12 (q : Rat) : kg0.sel 12 q = 0 := (show (if (12 : Int) = 0 then q else 0) = 0 from if_neg (by decide))
theorem fr_31 : sq0.fr 3 1 = 3 := (show Rat.divInt 3 1 = 3 by decide +kernel)
theorem kcu {x y : Rat} (h : x * x + y * y = 1) : decide (kg0.kc (sq0.qn x) (sq0.qs x) (sq0.qd x) (sq0.qn y) (sq0.qs y) (sq0.qd y) = 0) = true := dT (by rw [kc_pair, if_pos h])
theorem and_no {p q : Prop} [Decidable p] [Decidable q] (h : ¬ (p ∧ q)) : (decide p && (decide q && true)) = false := by
  by_cases a : p
  · by_cases b : q
    · exact absurd ⟨a, b⟩ h
    · rw [dT a, dF b]; rfl
  · rw [dF a]; rfl
theorem szq_tanh (x y : Rat) : szq (tanh x y) ≤ szq x + szq y + 4 := by
  have s1 := szq_one
  have s2 := szq_add 1 x
  have s3 := szq_div y (1 + x)
  unfold tanh
  omega
theorem szq_of (t : Rat) : szq (of1 t) ≤ 4 * szq t + 9 ∧ szq (of2 t) ≤ 4 * szq t + 9 := by
  have s1 := szq_one
  have s2 := szq_mul t t
  have s3 := szq_add 1 (t * t)
  have s4 := szq_sub 1 (t * t)
  have s5 := szq_add t t
  have s6 := szq_div (1 - t * t) (1 + t * t)
  have s7 := szq_div (t + t) (1 + t * t)
  unfold of1 of2
  omega
theorem szq_three : szq 3 ≤ 1 := by
  have h := szq_int 3
  have h2 : bs (3 : Int).natAbs ≤ 1 := bs_le (by decide)
  have h3 : ((3 : Int) : Rat) = 3 := rfl
  rw [h3] at h
  omega
theorem eVMiddle : Entry Try.prog 17 (vMiddle sq0 kg0) := by
  refine entry_of (E := ⟨CKm sg0 sq0 kg0, Kall, noL⟩) (u := 10) (d := 10) CKm_ok loops_none mixed (by kernel_rfl) (fun args r h => ?_)
  unfold vMiddle vM2 k2 at h
  split at h
  · rename_i b n d c m e b2 n2 dd c2 m2 e2
    simp only [Option.some.injEq, Prod.mk.injEq, Bool.and_eq_true, decide_eq_true_eq] at h
    obtain ⟨⟨⟨⟨h1, h2⟩, g1⟩, ⟨h3, h4⟩, g2⟩, rfl⟩ := h
    have hcall := xmiddle_tree sg0 sq0 kg0 b c b2 c2 n d m e n2 dd m2 e2
    have z1 := ok5_sz (b := b) h1
    have z2 := ok5_sz (b := c) h2
    have z3 := ok5_sz (b := b2) h3
    have z4 := ok5_sz (b := c2) h4
    rw [ok5_6 h1, ok5_6 h2, ok5_6 h3, ok5_6 h4, dT g1, dT g2] at hcall
    obtain ⟨x, y, u1, rfl, rfl, rfl, rfl, rfl, rfl⟩ := kc_canon g1
    obtain ⟨u, v, u2, rfl, rfl, rfl, rfl, rfl, rfl⟩ := kc_canon g2
    clear g1 g2 h1 h2 h3 h4
    simp only [qv_rat, qv_nil, Rat.zero_add, fr_11, fr_31, qok_nil, rat_eq_iff] at hcall
    simp only [qv_rat] at z1 z2 z3 z4 ⊢
    rw [mk00]
    have uD := unit_d u1 u2
    have s1 := szq_d1 x y u v
    have s2 := szq_d2 x y u v
    have s5 := szq_neg y
    have s8 := szq_one
    by_cases hn : x = u ∧ y = v
    · rw [if_pos hn, sel_12, sel_12, pair_zero]
      rw [dT hn.1, dT hn.2] at hcall
      exact hcall
    · rw [if_neg hn, sel_0, sel_0]
      have nD : d1 x y u v ≠ 1 := fun h => hn ((d_one u1 u2).1 h)
      have hm1 : kg0.m1 x y u v = m1n x y u v := rfl
      have hm2 : kg0.m2 x y u v = m2n x y u v := rfl
      rw [hm1, hm2]
      unfold m1n m2n
      have b1 : d1 x y u v = x * u - -y * v := rfl
      have b2 : d2 x y u v = -y * u + x * v := rfl
      rw [← b1, ← b2] at hcall
      rw [← b1] at s1
      rw [← b2] at s2
      rw [and_no hn, ok6_rat (q := -y) (by omega), ok6_rat (q := d1 x y u v) (by omega), ok6_rat (q := d2 x y u v) (by omega)] at hcall
      by_cases hh : hfn (d1 x y u v) (d2 x y u v) = 1
      · rw [if_pos hh, if_pos hh]
        rw [dT (show kg0.hf (d1 x y u v) (d2 x y u v) = 1 from hh), ok6_rat (q := 1) (by omega), show x * 0 - y * 1 = -y by grind, show y * 0 + x * 1 = x by grind] at hcall
        exact hcall
      · rw [if_neg hh, if_neg hh]
        have hy := hf_pos uD nD hh
        obtain ⟨_, nT, tp, _⟩ := tan_ct uD hy
        have hth : kg0.th (d1 x y u v) (d2 x y u v) = tanh (d1 x y u v) (d2 x y u v) := rfl
        have hsp : ∀ x y, sq0.sp x y = simp2 x y := fun x y => rfl
        have ho1 : ∀ t, kg0.o1 t = of1 t := fun t => rfl
        have ho2 : ∀ t, kg0.o2 t = of2 t := fun t => rfl
        have htn : kg0.tn (d1 x y u v) = true := dT nT
        rw [dF (show ¬ kg0.hf (d1 x y u v) (d2 x y u v) = 1 from hh), kcu uD, htn] at hcall
        simp only [hth, hsp, ho1, ho2] at hcall
        have s9 := szq_tanh (d1 x y u v) (d2 x y u v)
        unfold mdl
        generalize tanh (d1 x y u v) (d2 x y u v) = t at *
        have s10 := szq_three
        have s11 := szq_div t 3
        have s12 := szq_add (t / 3) (t / 3)
        obtain ⟨_, _, s13⟩ := simp2_in (x := t / 3) (y := t / 3 + t / 3) (by grind) (by grind)
        obtain ⟨s14, s15⟩ := szq_of (simp2 (t / 3) (t / 3 + t / 3))
        rw [ok_rat (q := t) (by omega), ok_rat (q := 3) (by omega), ok_rat (q := t / 3) (by omega), oks_rat (q := t / 3) (by omega), oks_rat (q := t / 3 + t / 3) (by omega), ok6_rat (q := simp2 (t / 3) (t / 3 + t / 3)) (by omega), ok6_rat (q := of1 (simp2 (t / 3) (t / 3 + t / 3))) (by omega), ok6_rat (q := of2 (simp2 (t / 3) (t / 3 + t / 3))) (by omega)] at hcall
        exact hcall
  · cases h
end
end Go.Proofs.Ythimfbeemicbhaa.L
namespace Go.Proofs.Ythimfbeemicbhaa.L
open Go Go.V Go.RowKit Go.Proofs.Ythimfbeemicbhaa.Sp Go.Proofs.Ythimfbeemicbhaa.F
open Go.Proofs (Try.prog)
noncomputable section
theorem CAwK_ok : Meets Try.prog (CAwK xg0 sq0 kg0) := ((((((meets_none _).add eXNone).add eVMiddle).add eVCorner).add eVThen).add eKOf).add eRQRatio
theorem rat0 : sq0.qn 0 = false ∧ sq0.qs 0 = ByteArray.mk #[] ∧ sq0.qd 0 = ByteArray.mk #[] := by
  have h := rat_zero
  have h2 : sq0.rat 0 = .agg [.val (.bool (sq0.qn 0)), .val (.string (sq0.qs 0)), .val (.string (sq0.qd 0))] := rfl
  rw [h2] at h
  simp only [AV.agg.injEq, List.cons.injEq, AV.val.injEq, Value.bool.injEq, Value.string.injEq, and_true] at h
  exact h
theorem szq_tin {x y : Int} (hx : x.natAbs < 256) (hy : y.natAbs < 256) (h0 : y ≠ 0) : szq (Rat.divInt x y) ≤ 1 := by
  have h := szq_fr x h0
  have h1 := bs_le (n := x.natAbs) (m := 1) (by omega)
  have h2 := bs_le (n := y.natAbs) (m := 1) (by omega)
  omega
theorem awk_true : callA Try.prog ⟨CAwK xg0 sq0 kg0, Kall, noL⟩ 10 10 6 [] = some (.val (.bool true)) := by
  rw [awk_tree]
  have hfr : ∀ a b, sq0.fr a b = Rat.divInt a b := fun a b => rfl
  have e0 : Rat.divInt 1 1 = 1 := by decide +kernel
  have e1 : (1 - Rat.divInt 1 2 * Rat.divInt 1 2) / (1 + Rat.divInt 1 2 * Rat.divInt 1 2) = Rat.divInt 3 5 := by decide +kernel
  have e2 : (Rat.divInt 1 2 + Rat.divInt 1 2) / (1 + Rat.divInt 1 2 * Rat.divInt 1 2) = Rat.divInt 4 5 := by decide +kernel
  have e3 : Rat.divInt 3 5 * Rat.divInt 3 5 - Rat.divInt 4 5 * Rat.divInt 4 5 = Rat.divInt (-7) 25 := by decide +kernel
  have e4 : Rat.divInt 4 5 * Rat.divInt 3 5 + Rat.divInt 3 5 * Rat.divInt 4 5 = Rat.divInt 24 25 := by decide +kernel
  have e5 : kg0.mk1 0 0 1 0 0 1 = 0 := by decide +kernel
  have e6 : kg0.ck 0 0 1 0 0 1 = 0 := by decide +kernel
  have e7 : kg0.c1 1 0 0 1 1 0 = 1 := by decide +kernel
  have e8 : kg0.c2 1 0 0 1 1 0 = 1 := by decide +kernel
  have e9 : kg0.m1 1 0 0 1 = Rat.divInt 3 5 := by decide +kernel
  have e10 : kg0.m2 1 0 0 1 = Rat.divInt 4 5 := by decide +kernel
  have s1 := szq_tin (x := 1) (y := 2) (by decide) (by decide) (by decide)
  have s2 := szq_tin (x := 3) (y := 5) (by decide) (by decide) (by decide)
  have s3 := szq_tin (x := 4) (y := 5) (by decide) (by decide) (by decide)
  have s4 := szq_one
  have s5 := szq_zero
  have w1 := kcu (x := Rat.divInt 3 5) (y := Rat.divInt 4 5) (by decide +kernel)
  have w2 := kcu (x := 1) (y := 0) (by decide +kernel)
  have w3 := kcu (x := 0) (y := 1) (by decide +kernel)
  rw [rat0.1, rat0.2.1, rat0.2.2] at w3
  simp only [qv_rat, qv_nil, fr_11, hfr, e0, e1, e2, e3, e4, e5, e6, e7, e8, e9, e10, sel_0]
  rw [ok6_rat (q := Rat.divInt 1 2) (by omega), ok6_rat (q := Rat.divInt 3 5) (by omega), ok6_rat (q := Rat.divInt 4 5) (by omega), ok5_rat (q := 1) (by omega), ok5_rat (q := 0) (by omega), w1, w2, w3]
  simp only [beq_self_eq_true, strEq_self, eq_self, decide_true]
  rfl
theorem eAwakeK : Entry Try.prog 6 tAwakeK := entry_of CAwK_ok loops_none mixed (by kernel_rfl) (fun args r h => by
  unfold tAwakeK at h
  split at h
  · cases h; exact awk_true
  · cases h)
end
end Go.Proofs.Ythimfbeemicbhaa.L
