import Derived.Lib.SmallJoins
import Derived.Test.YthimfbeemicbhaaZQB
import Derived.Test.YthimfbeemicbhaaZUA
set_option linter.unusedVariables false
set_option linter.unusedSimpArgs false
namespace Go.Proofs.Ythimfbeemicbhaa.L
open Go Go.ChangeShapes Go.WideShapes Go.RowKit Go.Deep Go.Joins
section
variable {H : Type} {enc : TypeId × Value → H} {P : Program} {w : World} {base : Nat} {spare : Nat → Bool} {held : Bool}
theorem array6 {α : Type} {cs : Array α} (h : cs.size = 6) : ∃ c0 c1 c2 c3 c4 c5, cs = #[c0, c1, c2, c3, c4, c5] := by
  obtain ⟨l⟩ := cs
  match l, h with
  | [c0, c1, c2, c3, c4, c5], _ => exact ⟨c0, c1, c2, c3, c4, c5, rfl⟩
structure PairT (P : Program) (t tr : TypeId) (f0 f1 g0 g1 g2 : Field) : Prop where
  u : P.underlying t = some (.struct #[f0, f1])
  c : P.cellsOf t = 6
  t0 : f0.type = tr
  t1 : f1.type = tr
  o0 : f0.offset = 0
  o1 : f1.offset = 3
  ur : P.underlying tr = some (.struct #[g0, g1, g2])
  cr : P.cellsOf tr = 3
  one : oneCellFields P #[g0, g1, g2] = true
theorem open_pair {r : Reach} {b0 : Nat} {t tr : TypeId} {f0 f1 g0 g1 g2 : Field} {v : Value} {d : DataW H} {p : List MemPlace} (T : PairT P t tr f0 f1 g0 g1 g2) (hv : Value.okWide P w r b0 t v) (h : DataW.Trod enc P w base spare held t v d p) :
    ∃ (v0 v1 v2 v3 v4 v5 : Value) (y0 y1 y2 y3 y4 y5 : DataW H × List MemPlace) (n : Nat), v = .agg #[v0, v1, v2, v3, v4, v5] ∧ d = .agg [.agg [y0.1, y1.1, y2.1], .agg [y3.1, y4.1, y5.1]] ∧ p = (y0.2 ++ (y1.2 ++ y2.2)) ++ (y3.2 ++ (y4.2 ++ y5.2)) ∧
      (DataW.trod enc P w base spare held n g0.type [v0] = some y0 ∧ DataW.trod enc P w base spare held n g1.type [v1] = some y1 ∧ DataW.trod enc P w base spare held n g2.type [v2] = some y2) ∧
      ∃ n, DataW.trod enc P w base spare held n g0.type [v3] = some y3 ∧ DataW.trod enc P w base spare held n g1.type [v4] = some y4 ∧ DataW.trod enc P w base spare held n g2.type [v5] = some y5 := by
  obtain ⟨hs, hC, e0, e1, p0, p1, hr, hC3, hone⟩ := T
  obtain ⟨cs, rfl, hsz⟩ := okWide_struct hs hv
  obtain ⟨c0, c1, c2, c3, c4, c5, rfl⟩ := array6 (hsz.trans hC)
  obtain ⟨fuel, hf⟩ := h
  obtain ⟨a, b, n, hx, _, h0, h1⟩ := trod_struct2 hs hf
  rw [e0, p0, hC3] at h0
  rw [e1, p1, hC3] at h1
  obtain ⟨y0, y1, y2, n0, rfl, _, k0, k1, k2⟩ := trod_struct3 hr h0
  obtain ⟨y3, y4, y5, n1, rfl, _, k3, k4, k5⟩ := trod_struct3 hr h1
  obtain ⟨o0, z0⟩ := hone_of hone 0 g0 rfl
  obtain ⟨o1, z1⟩ := hone_of hone 1 g1 rfl
  obtain ⟨o2, z2⟩ := hone_of hone 2 g2 rfl
  simp only [Prod.mk.injEq] at hx
  exact ⟨c0, c1, c2, c3, c4, c5, y0, y1, y2, y3, y4, y5, n0, rfl, hx.1, hx.2, ⟨by simpa [Value.cells, o0, z0] using k0, by simpa [Value.cells, o1, z1] using k1, by simpa [Value.cells, o2, z2] using k2⟩,
    n1, by simpa [Value.cells, o0, z0] using k3, by simpa [Value.cells, o1, z1] using k4, by simpa [Value.cells, o2, z2] using k5⟩
theorem shut_pair {t tr : TypeId} {f0 f1 g0 g1 g2 : Field} {v0 v1 v2 v3 v4 v5 : Value} {y0 y1 y2 y3 y4 y5 : DataW H × List MemPlace} (T : PairT P t tr f0 f1 g0 g1 g2)
    (t0 : ∃ n, DataW.trod enc P w base spare held n g0.type [v0] = some y0) (t1 : ∃ n, DataW.trod enc P w base spare held n g1.type [v1] = some y1) (t2 : ∃ n, DataW.trod enc P w base spare held n g2.type [v2] = some y2)
    (t3 : ∃ n, DataW.trod enc P w base spare held n g0.type [v3] = some y3) (t4 : ∃ n, DataW.trod enc P w base spare held n g1.type [v4] = some y4) (t5 : ∃ n, DataW.trod enc P w base spare held n g2.type [v5] = some y5) :
    DataW.Trod enc P w base spare held t (.agg #[v0, v1, v2, v3, v4, v5]) (.agg [.agg [y0.1, y1.1, y2.1], .agg [y3.1, y4.1, y5.1]]) ((y0.2 ++ (y1.2 ++ y2.2)) ++ (y3.2 ++ (y4.2 ++ y5.2))) := by
  obtain ⟨hs, hC, e0, e1, p0, p1, hr, hC3, hone⟩ := T
  obtain ⟨n0, a0⟩ := shut_agg3 hr hone hC3 t0 t1 t2
  obtain ⟨n1, a1⟩ := shut_agg3 hr hone hC3 t3 t4 t5
  have ts := trod_struct2_mk (enc := enc) (w := w) (base := base) (spare := spare) (held := held) (n := max n0 n1) (cs := [v0, v1, v2, v3, v4, v5]) hs (by simp [hC])
    (by rw [e0, p0, hC3]; simpa [Value.cells] using DataW.trod_le (Nat.le_max_left n0 n1) a0) (by rw [e1, p1, hC3]; simpa [Value.cells] using DataW.trod_le (Nat.le_max_right n0 n1) a1)
  exact ⟨_, by simpa [Value.cells] using ts⟩
end
end Go.Proofs.Ythimfbeemicbhaa.L
namespace Go.Proofs.Ythimfbeemicbhaa.L
open Go Go.V Go.RowKit Go.Proofs.Ythimfbeemicbhaa.Sp Go.Proofs.Ythimfbeemicbhaa.F
noncomputable section
def hfn (x y : Rat) : Int := if y < 0 then 1 else if y = 0 then (if x < 0 then 1 else 0) else 0
def cmn (x y u v : Rat) : Int := if hfn x y - hfn u v = 0 then cqn (-v * x + u * y) 0 else hfn x y - hfn u v
def d1 (x y u v : Rat) : Rat := x * u - -y * v
def d2 (x y u v : Rat) : Rat := -y * u + x * v
def btn (x y p q u v : Rat) : Bool := decide (cmn (d1 x y p q) (d2 x y p q) (d1 x y u v) (d2 x y u v) ≤ 0)
def tanh (x y : Rat) : Rat := y / (1 + x)
def of1 (t : Rat) : Rat := (1 - t * t) / (1 + t * t)
def of2 (t : Rat) : Rat := (t + t) / (1 + t * t)
def mdl (x y u v : Rat) : Rat := simp2 (tanh (d1 x y u v) (d2 x y u v) / 3) (tanh (d1 x y u v) (d2 x y u v) / 3 + tanh (d1 x y u v) (d2 x y u v) / 3)
def m1n (x y u v : Rat) : Rat := if hfn (d1 x y u v) (d2 x y u v) = 1 then -y else x * of1 (mdl x y u v) - y * of2 (mdl x y u v)
def m2n (x y u v : Rat) : Rat := if hfn (d1 x y u v) (d2 x y u v) = 1 then x else y * of1 (mdl x y u v) + x * of2 (mdl x y u v)
theorem unit_then {x y u v : Rat} (h1 : x * x + y * y = 1) (h2 : u * u + v * v = 1) : (x * u - y * v) * (x * u - y * v) + (y * u + x * v) * (y * u + x * v) = 1 := by
  have e : (x * u - y * v) * (x * u - y * v) + (y * u + x * v) * (y * u + x * v) = (x * x + y * y) * (u * u + v * v) := by grind
  rw [e, h1, h2]; exact Rat.mul_one 1
theorem unit_back {x y : Rat} (h1 : x * x + y * y = 1) : x * x + -y * -y = 1 := by grind
theorem unit_d {x y u v : Rat} (h1 : x * x + y * y = 1) (h2 : u * u + v * v = 1) : d1 x y u v * d1 x y u v + d2 x y u v * d2 x y u v = 1 := by
  unfold d1 d2
  exact unit_then (unit_back h1) h2
theorem sqr_nn (t : Rat) : 0 ≤ t * t := by
  rcases Rat.le_total (a := 0) (b := t) with h | h
  · exact Rat.mul_nonneg h h
  · have := Rat.mul_nonneg (a := -t) (b := -t) (by grind) (by grind)
    grind
theorem unit_of (t : Rat) : of1 t * of1 t + of2 t * of2 t = 1 := by
  unfold of1 of2
  have := sqr_nn t
  have h : 1 + t * t ≠ 0 := by grind
  grind
def ctn (x y : Rat) : Rat := y / (1 - x)
theorem ct_eq {x y : Rat} (h : x * x + y * y = 1) (hx : x ≠ 1) : (1 - x) * (ctn x y * ctn x y + 1) = 2 ∧ y = ctn x y * (1 - x) := by
  have h1 : 1 - x ≠ 0 := by grind
  have e : ctn x y * (1 - x) = y := by unfold ctn; exact Rat.div_mul_cancel h1
  refine ⟨?_, e.symm⟩
  have e2 : (1 - x) * ((1 - x) * (ctn x y * ctn x y + 1)) = (1 - x) * 2 := by
    have : (1 - x) * ((1 - x) * (ctn x y * ctn x y + 1)) = (ctn x y * (1 - x)) * (ctn x y * (1 - x)) + (1 - x) * (1 - x) := by grind
    rw [this, e]
    grind
  grind
theorem lt_one {x y : Rat} (h : x * x + y * y = 1) : x ≤ 1 := by
  have h2 := sqr_nn y
  rcases Rat.le_total (a := x) (b := 1) with h1 | h1
  · exact h1
  · have h3 := sqr_nn (x - 1)
    have h4 : 0 ≤ x - 1 := by grind
    have h5 := Rat.mul_nonneg h4 h4
    grind
theorem one_sub_pos {x y : Rat} (h : x * x + y * y = 1) (hx : x ≠ 1) : 0 < 1 - x := by
  have := lt_one h
  have h2 : x ≠ 1 := hx
  rcases Rat.le_iff_lt_or_eq.1 this with h3 | h3
  · grind
  · exact absurd h3 hx
theorem y_of_one {x y : Rat} (h : x * x + y * y = 1) (hx : x = 1) : y = 0 := by
  subst hx
  have : y * y = 0 := by grind
  rcases Rat.mul_eq_zero.1 this with h1 | h1 <;> exact h1
theorem ct_pos {x y : Rat} (h : x * x + y * y = 1) (hx : x ≠ 1) : (0 < ctn x y ↔ 0 < y) := by
  have h1 := one_sub_pos h hx
  obtain ⟨_, e⟩ := ct_eq h hx
  constructor
  · intro k
    rw [e]; exact Rat.mul_pos k h1
  · intro k
    unfold ctn
    rw [Rat.lt_div_iff h1]
    grind
theorem hf_ct {x y : Rat} (h : x * x + y * y = 1) (hx : x ≠ 1) : hfn x y = if 0 < ctn x y then 0 else 1 := by
  unfold hfn
  by_cases h1 : 0 < ctn x y
  · have h2 := (ct_pos h hx).1 h1
    rw [if_pos h1, if_neg (show ¬ y < 0 by grind), if_neg (show ¬ y = 0 by grind)]
  · have h2 : ¬ 0 < y := fun k => h1 ((ct_pos h hx).2 k)
    rw [if_neg h1]
    by_cases h3 : y < 0
    · rw [if_pos h3]
    · have h4 : y = 0 := by grind
      rw [if_neg h3, if_pos h4]
      have h5 : x < 0 := by
        have h6 : (x - 1) * (x + 1) = 0 := by rw [h4] at h; grind
        rcases Rat.mul_eq_zero.1 h6 with h7 | h7
        · exact absurd (show x = 1 by grind) hx
        · grind
      rw [if_pos h5]
theorem d_one {x y u v : Rat} (h1 : x * x + y * y = 1) (h2 : u * u + v * v = 1) : d1 x y u v = 1 ↔ x = u ∧ y = v := by
  unfold d1
  constructor
  · intro h
    have e : (x - u) * (x - u) + (y - v) * (y - v) = 0 := by grind
    have a := sqr_nn (x - u)
    have b := sqr_nn (y - v)
    have a0 : (x - u) * (x - u) = 0 := by grind
    have b0 : (y - v) * (y - v) = 0 := by grind
    constructor
    · rcases Rat.mul_eq_zero.1 a0 with c | c <;> grind
    · rcases Rat.mul_eq_zero.1 b0 with c | c <;> grind
  · rintro ⟨rfl, rfl⟩; grind
theorem tan_ct {x y : Rat} (h : x * x + y * y = 1) (hy : 0 < y) : x ≠ 1 ∧ 1 + x ≠ 0 ∧ 0 < tanh x y ∧ ctn x y = 1 / tanh x y := by
  have n1 : x ≠ 1 := fun hx => by have := y_of_one h hx; grind
  have h2 : (1 + x) * (1 - x) = y * y := by grind
  have h3 : 0 < y * y := Rat.mul_pos hy hy
  have n2 : 1 + x ≠ 0 := fun hx => by rw [hx] at h2; grind
  have p1 := one_sub_pos h n1
  have p2 : 0 < 1 + x := by
    have h4 : 0 < (1 + x) * (1 - x) := by rw [h2]; exact h3
    exact (Rat.mul_pos_iff_of_pos_right p1).1 h4
  have p3 : 0 < tanh x y := by unfold tanh; rw [Rat.lt_div_iff p2]; grind
  refine ⟨n1, n2, p3, ?_⟩
  unfold ctn tanh
  have : y ≠ 0 := by grind
  have : 1 - x ≠ 0 := by grind
  grind
end
end Go.Proofs.Ythimfbeemicbhaa.L
namespace Go.Proofs.Ythimfbeemicbhaa.L
open Go Go.V Go.RowKit Go.Proofs.Ythimfbeemicbhaa.Sp Go.Proofs.Ythimfbeemicbhaa.F
noncomputable section
theorem simp2_in {x y : Rat} (h0 : 0 < x) (h : x ≤ y) : x ≤ simp2 x y ∧ simp2 x y ≤ y ∧ szq (simp2 x y) ≤ szq x := by
  unfold simp2
  rw [if_neg (show ¬ y < x by grind), if_neg (show ¬ (x ≤ 0 ∧ 0 ≤ y) by grind), if_neg (show ¬ y < 0 by grind)]
  obtain ⟨i1, i2, i3⟩ := simp1_spec _ x y h0 h (Nat.le_refl _)
  exact ⟨i1, i2, szq_simp h0 h⟩
theorem hf_pos {x y : Rat} (h : x * x + y * y = 1) (hx : x ≠ 1) (hh : hfn x y ≠ 1) : 0 < y := by
  rw [hf_ct h hx] at hh
  by_cases g : 0 < ctn x y
  · exact (ct_pos h hx).1 g
  · rw [if_neg g] at hh; exact absurd rfl hh
end
end Go.Proofs.Ythimfbeemicbhaa.L
namespace Go.Proofs.Ythimfbeemicbhaa.L
open Go Go.V Go.RowKit Go.Proofs.Ythimfbeemicbhaa.Sp
open Go.Proofs (Try.prog)
noncomputable section
abbrev BA : Type := ByteArray
structure Kg where
  kc : Bool → BA → BA → Bool → BA → BA → Int
  hf : Rat → Rat → Int
  up : Rat → Rat → Bool
  un : Rat → Rat → Bool
  cm : Rat → Rat → Rat → Rat → Int
  or1 : Int → Int
  or2 : Int → Int → Int
  or3 : Int → Int → Int → Int
  sel : Int → Rat → Rat
  sei : Int → Int → Int
  seb : Int → Bool → Bool
  tk : Int → Rat → Int
  th : Rat → Rat → Rat
  tn : Rat → Bool
  o1 : Rat → Rat
  o2 : Rat → Rat
  bt : Rat → Rat → Rat → Rat → Rat → Rat → Bool
  mk1 : Int → Int → Rat → Rat → Rat → Rat → Int
  m1 : Rat → Rat → Rat → Rat → Rat
  m2 : Rat → Rat → Rat → Rat → Rat
  ck : Int → Int → Rat → Rat → Rat → Rat → Int
  c1 : Rat → Rat → Rat → Rat → Rat → Rat → Rat
  c2 : Rat → Rat → Rat → Rat → Rat → Rat → Rat
def Qg.pair (Z : Qg) (x y : Rat) : AV := .agg [.val (.bool (Z.qn x)), .val (.string (Z.qs x)), .val (.string (Z.qd x)), .val (.bool (Z.qn y)), .val (.string (Z.qs y)), .val (.string (Z.qd y))]
abbrev av3 (b : Bool) (n d : BA) : AV := .agg [.val (.bool b), .val (.string n), .val (.string d)]
abbrev av6 (b : Bool) (n d : BA) (c : Bool) (m e : BA) : AV := .agg [.val (.bool b), .val (.string n), .val (.string d), .val (.bool c), .val (.string m), .val (.string e)]
def k0 (f : Bool → BA → BA → Option (Bool × AV)) : TF := fun args => match args with
  | [.agg [.val (.bool b), .val (.string n), .val (.string d)]] => f b n d
  | _ => none
def k1 (f : Bool → BA → BA → Bool → BA → BA → Option (Bool × AV)) : TF := fun args => match args with
  | [.agg [.val (.bool b), .val (.string n), .val (.string d), .val (.bool c), .val (.string m), .val (.string e)]] => f b n d c m e
  | _ => none
def k2 (f : Bool → BA → BA → Bool → BA → BA → Bool → BA → BA → Bool → BA → BA → Option (Bool × AV)) : TF := fun args => match args with
  | [.agg [.val (.bool b), .val (.string n), .val (.string d), .val (.bool c), .val (.string m), .val (.string e)], .agg [.val (.bool b2), .val (.string n2), .val (.string d2), .val (.bool c2), .val (.string m2), .val (.string e2)]] => f b n d c m e b2 n2 d2 c2 m2 e2
  | _ => none
def tKCheck (K : Kg) : TF := k1 fun b n d c m e => some (ok6 n d && ok6 m e, .val (.int .i64 (K.kc b n d c m e)))
def tK1 (Z : Qg) (f : Rat → Rat → AV) : TF := k1 fun b n d c m e => some (ok6 n d && ok6 m e, f (Z.qv b n d) (Z.qv c m e))
def tK2 (Z : Qg) (f : Rat → Rat → Rat → Rat → AV) : TF := k2 fun b n d c m e b2 n2 d2 c2 m2 e2 => some (ok6 n d && ok6 m e && ok6 n2 d2 && ok6 m2 e2, f (Z.qv b n d) (Z.qv c m e) (Z.qv b2 n2 d2) (Z.qv c2 m2 e2))
def tKOf (Z : Qg) : TF := k0 fun b n d => some (ok6 n d, Z.pair ((1 - Z.qv b n d * Z.qv b n d) / (1 + Z.qv b n d * Z.qv b n d)) ((Z.qv b n d + Z.qv b n d) / (1 + Z.qv b n d * Z.qv b n d)))
def tKThen (Z : Qg) : TF := tK2 Z fun x y u v => Z.pair (x * u - y * v) (y * u + x * v)
def tKBack (Z : Qg) : TF := k1 fun b n d c m e => some (ok6 n d && ok6 m e, .agg [.val (.bool b), .val (.string n), .val (.string d), .val (.bool (Z.qn (-Z.qv c m e))), .val (.string (Z.qs (-Z.qv c m e))), .val (.string (Z.qd (-Z.qv c m e)))])
def tKHalf (Z : Qg) (K : Kg) : TF := tK1 Z fun x y => .val (.int .i64 (K.hf x y))
def k3 (f : Bool → BA → BA → Bool → BA → BA → Bool → BA → BA → Bool → BA → BA → Bool → BA → BA → Bool → BA → BA → Option (Bool × AV)) : TF := fun args => match args with
  | [.agg [.val (.bool b), .val (.string n), .val (.string d), .val (.bool c), .val (.string m), .val (.string e)], .agg [.val (.bool b2), .val (.string n2), .val (.string d2), .val (.bool c2), .val (.string m2), .val (.string e2)], .agg [.val (.bool b3), .val (.string n3), .val (.string d3), .val (.bool c3), .val (.string m3), .val (.string e3)]] => f b n d c m e b2 n2 d2 c2 m2 e2 b3 n3 d3 c3 m3 e3
  | _ => none
def xKNone (Z : Qg) : TF := fun args => match args with | [] => some (true, Z.pair 1 0) | _ => none
def xKThen (Z : Qg) (K : Kg) : TF := k2 fun b n d c m e b2 n2 d2 c2 m2 e2 => some (ok6 n d && ok6 m e && ok6 n2 d2 && ok6 m2 e2, .tup [Z.pair (K.sel (K.or2 (K.kc b n d c m e) (K.kc b2 n2 d2 c2 m2 e2)) (Z.qv b n d * Z.qv b2 n2 d2 - Z.qv c m e * Z.qv c2 m2 e2)) (K.sel (K.or2 (K.kc b n d c m e) (K.kc b2 n2 d2 c2 m2 e2)) (Z.qv c m e * Z.qv b2 n2 d2 + Z.qv b n d * Z.qv c2 m2 e2)), .val (.int .i64 (K.or2 (K.kc b n d c m e) (K.kc b2 n2 d2 c2 m2 e2)))])
def xKBack (Z : Qg) (K : Kg) : TF := k1 fun b n d c m e => some (ok6 n d && ok6 m e, .tup [Z.pair (K.sel (K.or1 (K.kc b n d c m e)) (Z.qv b n d)) (K.sel (K.or1 (K.kc b n d c m e)) (-Z.qv c m e)), .val (.int .i64 (K.or1 (K.kc b n d c m e)))])
def xKTan (Z : Qg) (K : Kg) : TF := k1 fun b n d c m e => some (ok6 n d && ok6 m e, .tup [Z.rat (K.sel (K.tk (K.kc b n d c m e) (Z.qv b n d)) (Z.qv c m e / (1 + Z.qv b n d))), .val (.int .i64 (K.tk (K.kc b n d c m e) (Z.qv b n d)))])
def CKr (S : Sg) (Z : Qg) : FuncId → TF := addC 19 (tQMul Z) (addC 44 (tQAdd Z) (addC 11 (tQNeg Z) (addC 18 (tQOf Z) (addC 22 (tQSub Z) (addC 45 (tQQuo Z) (addC 25 (tQSign Z) (addC 26 (tQCheck Z) (addC 38 (tSimplest Z) noC))))))))
theorem kcheck_tree (S : Sg) (Z : Qg) (b c : Bool) (n d m e : BA) : letI q_4 := (Z.qv b n d * Z.qv b n d); letI q_2 := (Z.qv false (ByteArray.mk #[]) (ByteArray.mk #[]) + Z.qv (Z.qn q_4) (Z.qs q_4) (Z.qd q_4)); letI q_5 := (Z.qv c m e * Z.qv c m e); letI q_1 := (Z.qv (Z.qn q_2) (Z.qs q_2) (Z.qd q_2) + Z.qv (Z.qn q_5) (Z.qs q_5) (Z.qd q_5)); letI q_3 := (strEq (Z.qs q_1) (Z.qs (Z.fr (1 : Int) (1 : Int))) && (strEq (Z.qd q_1) (Z.qd (Z.fr (1 : Int) (1 : Int))) && true));
    (callA Try.prog ⟨CKr S Z, Kall, noL⟩ 10 10 10 [av6 b n d c m e] = (bif Z.ok n d then (bif !decide (Z.ck b n d = (0 : Int)) then some (.val (.int .i64 1)) else (bif Z.ok m e then (bif !decide (Z.ck c m e = (0 : Int)) then some (.val (.int .i64 1)) else (bif Z.ok n d && Z.ok n d then (bif Z.ok m e && Z.ok m e then (bif Z.ok (ByteArray.mk #[]) (ByteArray.mk #[]) && Z.ok (Z.qs q_4) (Z.qd q_4) then (bif Z.ok (Z.qs q_2) (Z.qd q_2) && Z.ok (Z.qs q_5) (Z.qd q_5) then (bif bif true then !(Z.qn q_1 == Z.qn (Z.fr (1 : Int) (1 : Int)) && q_3) else Z.qn q_1 == Z.qn (Z.fr (1 : Int) (1 : Int)) && q_3 then some (.val (.int .i64 2)) else some (.val (.int .i64 0))) else none) else none) else none) else none)) else none)) else none)) := by kernel_rfl
theorem kthen_tree (S : Sg) (Z : Qg) (b c b2 c2 : Bool) (n d m e n2 d2 m2 e2 : BA) : letI q_7 := (Z.qv b n d * Z.qv b2 n2 d2); letI q_3 := (Z.qv false (ByteArray.mk #[]) (ByteArray.mk #[]) + Z.qv (Z.qn q_7) (Z.qs q_7) (Z.qd q_7)); letI q_6 := (Z.qv c m e * Z.qv c2 m2 e2); letI q_4 := (-Z.qv (Z.qn q_6) (Z.qs q_6) (Z.qd q_6)); letI q_1 := (Z.qv (Z.qn q_3) (Z.qs q_3) (Z.qd q_3) + Z.qv (Z.qn q_4) (Z.qs q_4) (Z.qd q_4)); letI q_8 := (Z.qv c m e * Z.qv b2 n2 d2); letI q_2 := (Z.qv false (ByteArray.mk #[]) (ByteArray.mk #[]) + Z.qv (Z.qn q_8) (Z.qs q_8) (Z.qd q_8)); letI q_9 := (Z.qv b n d * Z.qv c2 m2 e2); letI q_5 := (Z.qv (Z.qn q_2) (Z.qs q_2) (Z.qd q_2) + Z.qv (Z.qn q_9) (Z.qs q_9) (Z.qd q_9));
    (callA Try.prog ⟨CKr S Z, Kall, noL⟩ 10 10 35 [av6 b n d c m e, av6 b2 n2 d2 c2 m2 e2] = (bif Z.ok n d && Z.ok n2 d2 then (bif Z.ok m e && Z.ok m2 e2 then (bif Z.ok (Z.qs q_6) (Z.qd q_6) then (bif Z.ok (ByteArray.mk #[]) (ByteArray.mk #[]) && Z.ok (Z.qs q_7) (Z.qd q_7) then (bif Z.ok (Z.qs q_3) (Z.qd q_3) && Z.ok (Z.qs q_4) (Z.qd q_4) then (bif Z.ok m e && Z.ok n2 d2 then (bif Z.ok n d && Z.ok m2 e2 then (bif Z.ok (ByteArray.mk #[]) (ByteArray.mk #[]) && Z.ok (Z.qs q_8) (Z.qd q_8) then (bif Z.ok (Z.qs q_2) (Z.qd q_2) && Z.ok (Z.qs q_9) (Z.qd q_9) then some (.agg [(.val (.bool (Z.qn q_1))), (.val (.string (Z.qs q_1))), (.val (.string (Z.qd q_1))), (.val (.bool (Z.qn q_5))), (.val (.string (Z.qs q_5))), (.val (.string (Z.qd q_5)))]) else none) else none) else none) else none) else none) else none) else none) else none) else none)) := by kernel_rfl
theorem kback_tree (S : Sg) (Z : Qg) (b c : Bool) (n d m e : BA) : callA Try.prog ⟨CKr S Z, Kall, noL⟩ 10 10 24 [av6 b n d c m e] =
    (bif Z.ok m e then some (.agg [(.val (.bool b)), (.val (.string n)), (.val (.string d)), (.val (.bool (Z.qn (-Z.qv c m e)))), (.val (.string (Z.qs (-Z.qv c m e)))), (.val (.string (Z.qd (-Z.qv c m e))))]) else none) := by kernel_rfl
theorem kimage_tree (S : Sg) (Z : Qg) (b c b2 c2 : Bool) (n d m e n2 d2 m2 e2 : BA) : letI q_7 := (Z.qv b n d * Z.qv b2 n2 d2); letI q_3 := (Z.qv false (ByteArray.mk #[]) (ByteArray.mk #[]) + Z.qv (Z.qn q_7) (Z.qs q_7) (Z.qd q_7)); letI q_6 := (Z.qv c m e * Z.qv c2 m2 e2); letI q_4 := (-Z.qv (Z.qn q_6) (Z.qs q_6) (Z.qd q_6)); letI q_1 := (Z.qv (Z.qn q_3) (Z.qs q_3) (Z.qd q_3) + Z.qv (Z.qn q_4) (Z.qs q_4) (Z.qd q_4)); letI q_8 := (Z.qv c m e * Z.qv b2 n2 d2); letI q_2 := (Z.qv false (ByteArray.mk #[]) (ByteArray.mk #[]) + Z.qv (Z.qn q_8) (Z.qs q_8) (Z.qd q_8)); letI q_9 := (Z.qv b n d * Z.qv c2 m2 e2); letI q_5 := (Z.qv (Z.qn q_2) (Z.qs q_2) (Z.qd q_2) + Z.qv (Z.qn q_9) (Z.qs q_9) (Z.qd q_9));
    (callA Try.prog ⟨CKr S Z, Kall, noL⟩ 10 10 37 [av6 b n d c m e, av6 b2 n2 d2 c2 m2 e2] = (bif Z.ok n d && Z.ok n2 d2 then (bif Z.ok m e && Z.ok m2 e2 then (bif Z.ok (Z.qs q_6) (Z.qd q_6) then (bif Z.ok (ByteArray.mk #[]) (ByteArray.mk #[]) && Z.ok (Z.qs q_7) (Z.qd q_7) then (bif Z.ok (Z.qs q_3) (Z.qd q_3) && Z.ok (Z.qs q_4) (Z.qd q_4) then (bif Z.ok m e && Z.ok n2 d2 then (bif Z.ok n d && Z.ok m2 e2 then (bif Z.ok (ByteArray.mk #[]) (ByteArray.mk #[]) && Z.ok (Z.qs q_8) (Z.qd q_8) then (bif Z.ok (Z.qs q_2) (Z.qd q_2) && Z.ok (Z.qs q_9) (Z.qd q_9) then some (.agg [(.val (.bool (Z.qn q_1))), (.val (.string (Z.qs q_1))), (.val (.string (Z.qd q_1))), (.val (.bool (Z.qn q_5))), (.val (.string (Z.qs q_5))), (.val (.string (Z.qd q_5)))]) else none) else none) else none) else none) else none) else none) else none) else none) else none)) := by kernel_rfl
theorem kof_tree (S : Sg) (Z : Qg) (b : Bool) (n d : BA) : letI q_6 := (Z.fr (1 : Int) (1 : Int)); letI q_4 := (Z.qv false (ByteArray.mk #[]) (ByteArray.mk #[]) + Z.qv (Z.qn q_6) (Z.qs q_6) (Z.qd q_6)); letI q_7 := (Z.qv b n d * Z.qv b n d); letI q_1 := (Z.qv (Z.qn q_4) (Z.qs q_4) (Z.qd q_4) + Z.qv (Z.qn q_7) (Z.qs q_7) (Z.qd q_7)); letI q_5 := (Z.qv false (ByteArray.mk #[]) (ByteArray.mk #[]) + Z.qv b n d); letI q_2 := (Z.qv (Z.qn q_5) (Z.qs q_5) (Z.qd q_5) + Z.qv b n d); letI q_3 := (Z.qv (Z.qn q_6) (Z.qs q_6) (Z.qd q_6) - Z.qv (Z.qn q_7) (Z.qs q_7) (Z.qd q_7)); letI q_8 := (Z.qv (Z.qn q_3) (Z.qs q_3) (Z.qd q_3) / Z.qv (Z.qn q_1) (Z.qs q_1) (Z.qd q_1)); letI q_9 := (Z.qv (Z.qn q_2) (Z.qs q_2) (Z.qd q_2) / Z.qv (Z.qn q_1) (Z.qs q_1) (Z.qd q_1));
    (callA Try.prog ⟨CKr S Z, Kall, noL⟩ 10 10 7 [av3 b n d] = (bif Z.ok n d && Z.ok n d then (bif Z.ok (ByteArray.mk #[]) (ByteArray.mk #[]) && Z.ok (Z.qs q_6) (Z.qd q_6) then (bif Z.ok (Z.qs q_4) (Z.qd q_4) && Z.ok (Z.qs q_7) (Z.qd q_7) then (bif Z.ok (Z.qs q_6) (Z.qd q_6) && Z.ok (Z.qs q_7) (Z.qd q_7) then (bif Z.ok (Z.qs q_3) (Z.qd q_3) && Z.ok (Z.qs q_1) (Z.qd q_1) then (bif Z.ok (ByteArray.mk #[]) (ByteArray.mk #[]) && Z.ok n d then (bif Z.ok (Z.qs q_5) (Z.qd q_5) && Z.ok n d then (bif Z.ok (Z.qs q_2) (Z.qd q_2) && Z.ok (Z.qs q_1) (Z.qd q_1) then some (.agg [(.val (.bool (Z.qn q_8))), (.val (.string (Z.qs q_8))), (.val (.string (Z.qd q_8))), (.val (.bool (Z.qn q_9))), (.val (.string (Z.qs q_9))), (.val (.string (Z.qd q_9)))]) else none) else none) else none) else none) else none) else none) else none) else none)) := by kernel_rfl
theorem khalf_tree (S : Sg) (Z : Qg) (b c : Bool) (n d m e : BA) : callA Try.prog ⟨CKr S Z, Kall, noL⟩ 10 10 36 [av6 b n d c m e] =
    (bif Z.ok n d then (bif inR IntKind.i64 ((1 : Int) - Z.sq (Z.qv b n d)) then (bif inR IntKind.i64 (((1 : Int) - Z.sq (Z.qv b n d)).tdiv (2 : Int)) then (bif Z.ok m e then (bif inR IntKind.i64 (Z.sq (Z.qv c m e) + (1 : Int)) then (bif decide ((0 : Int) ≤ Z.sq (Z.qv c m e) + (1 : Int)) && decide (Z.sq (Z.qv c m e) + (1 : Int) < (3 : Int)) then some (.val (.int .i64 ([(1 : Int), ((1 : Int) - Z.sq (Z.qv b n d)).tdiv (2 : Int), (0 : Int)].getD (Z.sq (Z.qv c m e) + (1 : Int)).toNat (0 : Int)))) else none) else none) else none) else none) else none) else none) := by kernel_rfl
end
end Go.Proofs.Ythimfbeemicbhaa.L
namespace Go.Proofs.Ythimfbeemicbhaa.L
open Go Go.V Go.RowKit Go.Proofs.Ythimfbeemicbhaa.Sp
open Go.Proofs (Try.prog)
noncomputable section
def CKx (S : Sg) (Z : Qg) (K : Kg) : FuncId → TF := addC 10 (tKCheck K) (addC 35 (tKThen Z) (addC 24 (tKBack Z) (addC 37 (tKThen Z) (addC 36 (tKHalf Z K) (CKr S Z)))))
theorem xnone_tree (S : Sg) (Z : Qg) (K : Kg) : callA Try.prog ⟨CKx S Z K, Kall, noL⟩ 10 10 16 [] =
    (some (.agg [(.val (.bool (Z.qn (Z.fr (1 : Int) (1 : Int))))), (.val (.string (Z.qs (Z.fr (1 : Int) (1 : Int))))), (.val (.string (Z.qd (Z.fr (1 : Int) (1 : Int))))), (.val (.bool false)), (.val (.string (ByteArray.mk #[]))), (.val (.string (ByteArray.mk #[])))])) := by kernel_rfl
theorem xthen_tree (S : Sg) (Z : Qg) (K : Kg) (b c b2 c2 : Bool) (n d m e n2 d2 m2 e2 : BA) : letI q_1 := (Z.qv b n d * Z.qv b2 n2 d2 - Z.qv c m e * Z.qv c2 m2 e2); letI q_2 := (Z.qv c m e * Z.qv b2 n2 d2 + Z.qv b n d * Z.qv c2 m2 e2);
    (callA Try.prog ⟨CKx S Z K, Kall, noL⟩ 10 10 14 [av6 b n d c m e, av6 b2 n2 d2 c2 m2 e2] = (bif ok6 n d && ok6 m e then (bif !decide (K.kc b n d c m e = (0 : Int)) then some (.tup [(.agg [(.val (.bool false)), (.val (.string (ByteArray.mk #[]))), (.val (.string (ByteArray.mk #[]))), (.val (.bool false)), (.val (.string (ByteArray.mk #[]))), (.val (.string (ByteArray.mk #[])))]), (.val (.int .i64 1))]) else (bif ok6 n2 d2 && ok6 m2 e2 then (bif !decide (K.kc b2 n2 d2 c2 m2 e2 = (0 : Int)) then some (.tup [(.agg [(.val (.bool false)), (.val (.string (ByteArray.mk #[]))), (.val (.string (ByteArray.mk #[]))), (.val (.bool false)), (.val (.string (ByteArray.mk #[]))), (.val (.string (ByteArray.mk #[])))]), (.val (.int .i64 1))]) else (bif ok6 n d && ok6 m e && ok6 n2 d2 && ok6 m2 e2 then some (.tup [(.agg [(.val (.bool (Z.qn q_1))), (.val (.string (Z.qs q_1))), (.val (.string (Z.qd q_1))), (.val (.bool (Z.qn q_2))), (.val (.string (Z.qs q_2))), (.val (.string (Z.qd q_2)))]), (.val (.int .i64 0))]) else none)) else none)) else none)) := by kernel_rfl
theorem xback_tree (S : Sg) (Z : Qg) (K : Kg) (b c : Bool) (n d m e : BA) : callA Try.prog ⟨CKx S Z K, Kall, noL⟩ 10 10 8 [av6 b n d c m e] =
    (bif ok6 n d && ok6 m e then (bif !decide (K.kc b n d c m e = (0 : Int)) then some (.tup [(.agg [(.val (.bool false)), (.val (.string (ByteArray.mk #[]))), (.val (.string (ByteArray.mk #[]))), (.val (.bool false)), (.val (.string (ByteArray.mk #[]))), (.val (.string (ByteArray.mk #[])))]), (.val (.int .i64 1))]) else (bif ok6 n d && ok6 m e then some (.tup [(.agg [(.val (.bool b)), (.val (.string n)), (.val (.string d)), (.val (.bool (Z.qn (-Z.qv c m e)))), (.val (.string (Z.qs (-Z.qv c m e)))), (.val (.string (Z.qd (-Z.qv c m e))))]), (.val (.int .i64 0))]) else none)) else none) := by kernel_rfl
theorem xtan_tree (S : Sg) (Z : Qg) (K : Kg) (b c : Bool) (n d m e : BA) : letI q_4 := (Z.fr (1 : Int) (1 : Int)); letI q_2 := (Z.qv false (ByteArray.mk #[]) (ByteArray.mk #[]) + Z.qv (Z.qn q_4) (Z.qs q_4) (Z.qd q_4)); letI q_1 := (Z.qv (Z.qn q_2) (Z.qs q_2) (Z.qd q_2) + Z.qv b n d); letI q_3 := (Z.qv c m e / Z.qv (Z.qn q_1) (Z.qs q_1) (Z.qd q_1));
    (callA Try.prog ⟨CKx S Z K, Kall, noL⟩ 10 10 9 [av6 b n d c m e] = (bif ok6 n d && ok6 m e then (bif !decide (K.kc b n d c m e = (0 : Int)) then some (.tup [(.agg [(.val (.bool false)), (.val (.string (ByteArray.mk #[]))), (.val (.string (ByteArray.mk #[])))]), (.val (.int .i64 1))]) else (bif Z.ok (ByteArray.mk #[]) (ByteArray.mk #[]) && Z.ok (Z.qs q_4) (Z.qd q_4) then (bif Z.ok (Z.qs q_2) (Z.qd q_2) && Z.ok n d then (bif Z.ok (Z.qs q_1) (Z.qd q_1) then (bif decide (Z.sq (Z.qv (Z.qn q_1) (Z.qs q_1) (Z.qd q_1)) = (0 : Int)) then some (.tup [(.agg [(.val (.bool false)), (.val (.string (ByteArray.mk #[]))), (.val (.string (ByteArray.mk #[])))]), (.val (.int .i64 12))]) else (bif Z.ok m e && Z.ok (Z.qs q_1) (Z.qd q_1) then some (.tup [(.agg [(.val (.bool (Z.qn q_3))), (.val (.string (Z.qs q_3))), (.val (.string (Z.qd q_3)))]), (.val (.int .i64 0))]) else none)) else none) else none) else none)) else none)) := by kernel_rfl
theorem xcorner_tree (S : Sg) (Z : Qg) (K : Kg) (b c b2 c2 b3 c3 : Bool) (n d m e n2 d2 m2 e2 n3 d3 m3 e3 : BA) : letI q_15 := (Z.fr (1 : Int) (1 : Int)); letI q_7 := (Z.qv false (ByteArray.mk #[]) (ByteArray.mk #[]) + Z.qv (Z.qn q_15) (Z.qs q_15) (Z.qd q_15)); letI q_6 := (Z.qv b n d * Z.qv b2 n2 d2 - Z.qv (Z.qn (-Z.qv c m e)) (Z.qs (-Z.qv c m e)) (Z.qd (-Z.qv c m e)) * Z.qv c2 m2 e2); letI q_1 := (Z.qv (Z.qn q_7) (Z.qs q_7) (Z.qd q_7) + Z.qv (Z.qn q_6) (Z.qs q_6) (Z.qd q_6)); letI q_11 := (Z.qv b n d * Z.qv b3 n3 d3 - Z.qv c m e * Z.qv c3 m3 e3); letI q_4 := (Z.qv false (ByteArray.mk #[]) (ByteArray.mk #[]) + Z.qv (Z.qn q_11) (Z.qs q_11) (Z.qd q_11)); letI q_9 := (Z.qv b2 n2 d2 * Z.qv b3 n3 d3 - Z.qv c2 m2 e2 * Z.qv c3 m3 e3); letI q_2 := (Z.qv (Z.qn q_4) (Z.qs q_4) (Z.qd q_4) + Z.qv (Z.qn q_9) (Z.qs q_9) (Z.qd q_9)); letI q_12 := (Z.qv c m e * Z.qv b3 n3 d3 + Z.qv b n d * Z.qv c3 m3 e3); letI q_5 := (Z.qv false (ByteArray.mk #[]) (ByteArray.mk #[]) + Z.qv (Z.qn q_12) (Z.qs q_12) (Z.qd q_12)); letI q_10 := (Z.qv c2 m2 e2 * Z.qv b3 n3 d3 + Z.qv b2 n2 d2 * Z.qv c3 m3 e3); letI q_3 := (Z.qv (Z.qn q_5) (Z.qs q_5) (Z.qd q_5) + Z.qv (Z.qn q_10) (Z.qs q_10) (Z.qd q_10)); letI q_8 := (Z.qv (Z.qn (-Z.qv c m e)) (Z.qs (-Z.qv c m e)) (Z.qd (-Z.qv c m e)) * Z.qv b2 n2 d2 + Z.qv b n d * Z.qv c2 m2 e2); letI q_13 := (Z.qv (Z.qn q_2) (Z.qs q_2) (Z.qd q_2) / Z.qv (Z.qn q_1) (Z.qs q_1) (Z.qd q_1)); letI q_14 := (Z.qv (Z.qn q_3) (Z.qs q_3) (Z.qd q_3) / Z.qv (Z.qn q_1) (Z.qs q_1) (Z.qd q_1));
    (callA Try.prog ⟨CKx S Z K, Kall, noL⟩ 10 10 15 [av6 b n d c m e, av6 b2 n2 d2 c2 m2 e2, av6 b3 n3 d3 c3 m3 e3] = (bif ok6 n d && ok6 m e then (bif !decide (K.kc b n d c m e = (0 : Int)) then some (.tup [(.agg [(.val (.bool false)), (.val (.string (ByteArray.mk #[]))), (.val (.string (ByteArray.mk #[]))), (.val (.bool false)), (.val (.string (ByteArray.mk #[]))), (.val (.string (ByteArray.mk #[])))]), (.val (.int .i64 1))]) else (bif ok6 n2 d2 && ok6 m2 e2 then (bif !decide (K.kc b2 n2 d2 c2 m2 e2 = (0 : Int)) then some (.tup [(.agg [(.val (.bool false)), (.val (.string (ByteArray.mk #[]))), (.val (.string (ByteArray.mk #[]))), (.val (.bool false)), (.val (.string (ByteArray.mk #[]))), (.val (.string (ByteArray.mk #[])))]), (.val (.int .i64 1))]) else (bif ok6 n d && ok6 m e then (bif ok6 n d && ok6 (Z.qs (-Z.qv c m e)) (Z.qd (-Z.qv c m e)) && ok6 n2 d2 && ok6 m2 e2 then (bif ok6 (Z.qs q_6) (Z.qd q_6) && ok6 (Z.qs q_8) (Z.qd q_8) then (bif decide (K.hf (Z.qv (Z.qn q_6) (Z.qs q_6) (Z.qd q_6)) (Z.qv (Z.qn q_8) (Z.qs q_8) (Z.qd q_8)) = (1 : Int)) then some (.tup [(.agg [(.val (.bool false)), (.val (.string (ByteArray.mk #[]))), (.val (.string (ByteArray.mk #[]))), (.val (.bool false)), (.val (.string (ByteArray.mk #[]))), (.val (.string (ByteArray.mk #[])))]), (.val (.int .i64 2))]) else (bif ok6 n d && ok6 m e && ok6 n3 d3 && ok6 m3 e3 then (bif ok6 n2 d2 && ok6 m2 e2 && ok6 n3 d3 && ok6 m3 e3 then (bif Z.ok (ByteArray.mk #[]) (ByteArray.mk #[]) && Z.ok (Z.qs q_15) (Z.qd q_15) then (bif Z.ok (Z.qs q_7) (Z.qd q_7) && Z.ok (Z.qs q_6) (Z.qd q_6) then (bif Z.ok (ByteArray.mk #[]) (ByteArray.mk #[]) && Z.ok (Z.qs q_11) (Z.qd q_11) then (bif Z.ok (Z.qs q_4) (Z.qd q_4) && Z.ok (Z.qs q_9) (Z.qd q_9) then (bif Z.ok (Z.qs q_2) (Z.qd q_2) && Z.ok (Z.qs q_1) (Z.qd q_1) then (bif Z.ok (ByteArray.mk #[]) (ByteArray.mk #[]) && Z.ok (Z.qs q_12) (Z.qd q_12) then (bif Z.ok (Z.qs q_5) (Z.qd q_5) && Z.ok (Z.qs q_10) (Z.qd q_10) then (bif Z.ok (Z.qs q_3) (Z.qd q_3) && Z.ok (Z.qs q_1) (Z.qd q_1) then some (.tup [(.agg [(.val (.bool (Z.qn q_13))), (.val (.string (Z.qs q_13))), (.val (.string (Z.qd q_13))), (.val (.bool (Z.qn q_14))), (.val (.string (Z.qs q_14))), (.val (.string (Z.qd q_14)))]), (.val (.int .i64 0))]) else none) else none) else none) else none) else none) else none) else none) else none) else none) else none)) else none) else none) else none)) else none)) else none)) := by kernel_rfl
end
end Go.Proofs.Ythimfbeemicbhaa.L
namespace Go.Proofs.Ythimfbeemicbhaa.L
open Go Go.V Go.RowKit Go.Proofs.Ythimfbeemicbhaa.Sp Go.Proofs.Ythimfbeemicbhaa.F
open Go.Proofs (Try.prog)
noncomputable section
def kcn (b : Bool) (n d : BA) (c : Bool) (m e : BA) : Int := if sq0.ck b n d = 0 ∧ sq0.ck c m e = 0 then (if qvn b n d * qvn b n d + qvn c m e * qvn c m e = 1 then 0 else 2) else 1
def or2n (k l : Int) : Int := if k = 0 ∧ l = 0 then 0 else 1
def kg0 : Kg where
  kc := kcn
  hf := hfn
  up x y := decide (hfn x y = 0)
  un x y := decide (x * x + y * y = 1)
  cm := cmn
  or1 k := or2n k 0
  or2 := or2n
  or3 k l m := or2n k (or2n l m)
  sel k q := if k = 0 then q else 0
  sei k z := if k = 0 then z else 0
  seb k z := bif decide (k = 0) then z else false
  tk k x := if k = 0 then (if 1 + x = 0 then 12 else 0) else 1
  th := tanh
  tn x := decide (1 + x ≠ 0)
  o1 := of1
  o2 := of2
  bt := btn
  mk1 k l x y u v := if or2n k l = 0 then (if x = u ∧ y = v then 12 else 0) else 1
  m1 := m1n
  m2 := m2n
  ck k l x y u v := if or2n k l = 0 then (if hfn (d1 x y u v) (d2 x y u v) = 1 then 2 else 0) else 1
  c1 x y u v p q := (x * p - y * q + (u * p - v * q)) / (1 + d1 x y u v)
  c2 x y u v p q := (y * p + x * q + (v * p + u * q)) / (1 + d1 x y u v)
theorem kc_pair (x y : Rat) : kg0.kc (sq0.qn x) (sq0.qs x) (sq0.qd x) (sq0.qn y) (sq0.qs y) (sq0.qd y) = if x * x + y * y = 1 then 0 else 2 := by
  have h1 : ∀ q, sq0.ck (sq0.qn q) (sq0.qs q) (sq0.qd q) = 0 := fun q => by
    have h : sq0.ck (sq0.qn q) (sq0.qs q) (sq0.qd q) = bif (sq0.qn q == sq0.qn (sq0.qv (sq0.qn q) (sq0.qs q) (sq0.qd q))) && strEq (sq0.qs q) (sq0.qs (sq0.qv (sq0.qn q) (sq0.qs q) (sq0.qd q))) && strEq (sq0.qd q) (sq0.qd (sq0.qv (sq0.qn q) (sq0.qs q) (sq0.qd q))) then 0 else 1 := rfl
    rw [h, qv_rat, beq_self_eq_true, strEq_self, strEq_self]; rfl
  have h2 : ∀ q, qvn (sq0.qn q) (sq0.qs q) (sq0.qd q) = q := qv_rat
  show kcn _ _ _ _ _ _ = _
  unfold kcn
  rw [if_pos ⟨h1 x, h1 y⟩, h2, h2]
theorem kc_zero {b : Bool} {n d : BA} {c : Bool} {m e : BA} (h : kg0.kc b n d c m e = 0) : sq0.ck b n d = 0 ∧ sq0.ck c m e = 0 ∧ sq0.qv b n d * sq0.qv b n d + sq0.qv c m e * sq0.qv c m e = 1 := by
  have h : kcn b n d c m e = 0 := h
  unfold kcn at h
  by_cases h1 : sq0.ck b n d = 0 ∧ sq0.ck c m e = 0
  · rw [if_pos h1] at h
    by_cases h2 : qvn b n d * qvn b n d + qvn c m e * qvn c m e = 1
    · exact ⟨h1.1, h1.2, h2⟩
    · rw [if_neg h2] at h; exact absurd h (by decide)
  · rw [if_neg h1] at h; exact absurd h (by decide)
theorem strEq_out {a b : BA} (h : strEq a b = true) : a = b := by
  unfold strEq at h
  rw [beq_iff_eq] at h
  exact bytes_ext h
theorem ck_canon {b : Bool} {n d : BA} (h : sq0.ck b n d = 0) : b = sq0.qn (sq0.qv b n d) ∧ n = sq0.qs (sq0.qv b n d) ∧ d = sq0.qd (sq0.qv b n d) := by
  have h : (bif (b == sq0.qn (sq0.qv b n d)) && strEq n (sq0.qs (sq0.qv b n d)) && strEq d (sq0.qd (sq0.qv b n d)) then (0 : Int) else 1) = 0 := h
  rw [Bool.cond_eq_ite] at h
  split at h
  · rename_i k
    rw [Bool.and_eq_true, Bool.and_eq_true, beq_iff_eq] at k
    exact ⟨k.1.1, strEq_out k.1.2, strEq_out k.2⟩
  · cases h
theorem kc_canon {b : Bool} {n d : BA} {c : Bool} {m e : BA} (h : kg0.kc b n d c m e = 0) : ∃ x y : Rat, x * x + y * y = 1 ∧ b = sq0.qn x ∧ n = sq0.qs x ∧ d = sq0.qd x ∧ c = sq0.qn y ∧ m = sq0.qs y ∧ e = sq0.qd y := by
  obtain ⟨h1, h2, h3⟩ := kc_zero h
  obtain ⟨a1, a2, a3⟩ := ck_canon h1
  obtain ⟨b1, b2, b3⟩ := ck_canon h2
  exact ⟨_, _, h3, a1, a2, a3, b1, b2, b3⟩
theorem ok6_sz {b : Bool} {n d : BA} (h : ok6 n d = true) : szq (sq0.qv b n d) ≤ 1000000 := by
  obtain ⟨h1, h2⟩ := ok6_out h
  have := szq_val b n d
  omega
theorem ok6_ok {n d : BA} (h : ok6 n d = true) : sq0.ok n d = true ∧ sq0.oks n d = true := by
  obtain ⟨h1, h2⟩ := ok6_out h
  exact ⟨qok_in (by omega) (by omega), qoks_in (by omega) (by omega)⟩
theorem ok6_rat {q : Rat} (h : szq q ≤ 1000000) : ok6 (sq0.qs q) (sq0.qd q) = true := by
  unfold szq at h
  have h1 := size_qs q
  have h2 := size_qd q
  unfold ok6
  rw [decide_eq_true (show (sq0.qs q).size ≤ 1000000 by omega), decide_eq_true (show (sq0.qd q).size ≤ 1000000 by omega)]; rfl
end
end Go.Proofs.Ythimfbeemicbhaa.L
namespace Go.Proofs.Ythimfbeemicbhaa.L
open Go Go.V Go.RowKit Go.Proofs.Ythimfbeemicbhaa.Sp Go.Proofs.Ythimfbeemicbhaa.F
open Go.Proofs (Try.prog)
noncomputable section
theorem qok_nil : sq0.ok (ByteArray.mk #[]) (ByteArray.mk #[]) = true := qok_in (Nat.zero_le _) (Nat.zero_le _)
theorem CKr_ok : Meets Try.prog (CKr sg0 sq0) := (((((((((meets_none _).add eSimplest).add eQCheck).add eQSign).add eQQuo).add eQSub).add eQOf).add eQNeg).add eQAdd).add eQMul
theorem fr_11 : sq0.fr 1 1 = 1 := of_eq_true (eq_true rfl)
theorem inI1 : inI 1 = true := rfl
theorem eKCheck : Entry Try.prog 10 (tKCheck kg0) := by
  refine entry_of (E := ⟨CKr sg0 sq0, Kall, noL⟩) (u := 10) (d := 10) CKr_ok loops_none mixed (by kernel_rfl) (fun args r h => ?_)
  unfold tKCheck k1 at h
  split at h
  · rename_i b n d c m e
    simp only [Option.some.injEq, Prod.mk.injEq, Bool.and_eq_true] at h
    obtain ⟨⟨h1, h2⟩, rfl⟩ := h
    have hcall := kcheck_tree sg0 sq0 b c n d m e
    have z1 := ok6_sz (b := b) h1
    have z2 := ok6_sz (b := c) h2
    obtain ⟨o1, _⟩ := ok6_ok h1
    obtain ⟨o2, _⟩ := ok6_ok h2
    have hk : kg0.kc b n d c m e = kcn b n d c m e := rfl
    have q1 : qvn b n d = sq0.qv b n d := rfl
    have q2 : qvn c m e = sq0.qv c m e := rfl
    rw [hk]
    unfold kcn
    rw [q1, q2]
    generalize sq0.qv b n d = x at *
    generalize sq0.qv c m e = y at *
    have s1 := szq_mul x x
    have s2 := szq_mul y y
    have s3 := szq_one
    have a1 := ok_rat (q := x * x) (by omega)
    have a2 := ok_rat (q := y * y) (by omega)
    simp only [qv_rat, qv_nil, Rat.zero_add, fr_11, inI1, qok_nil, o1, o2, a1, a2, rat_eq_iff, Bool.and_self, cond_true, cond_false] at hcall
    rw [hcall]
    by_cases c1 : sq0.ck b n d = 0
    · by_cases c2 : sq0.ck c m e = 0
      · rw [dT c1, dT c2, if_pos ⟨c1, c2⟩]
        by_cases c3 : x * x + y * y = 1
        · rw [dT c3, if_pos c3]; rfl
        · rw [dF c3, if_neg c3]; rfl
      · rw [dT c1, dF c2, if_neg (fun h => c2 h.2)]; rfl
    · rw [dF c1, if_neg (fun h => c1 h.1)]; rfl
  · cases h
theorem eKThen : Entry Try.prog 35 (tKThen sq0) := by
  refine entry_of (E := ⟨CKr sg0 sq0, Kall, noL⟩) (u := 10) (d := 10) CKr_ok loops_none mixed (by kernel_rfl) (fun args r h => ?_)
  unfold tKThen tK2 k2 at h
  split at h
  · rename_i b n d c m e b2 n2 d2 c2 m2 e2
    simp only [Option.some.injEq, Prod.mk.injEq, Bool.and_eq_true] at h
    obtain ⟨⟨⟨⟨h1, h2⟩, h3⟩, h4⟩, rfl⟩ := h
    have hcall := kthen_tree sg0 sq0 b c b2 c2 n d m e n2 d2 m2 e2
    have z1 := ok6_sz (b := b) h1
    have z2 := ok6_sz (b := c) h2
    have z3 := ok6_sz (b := b2) h3
    have z4 := ok6_sz (b := c2) h4
    obtain ⟨o1, _⟩ := ok6_ok h1
    obtain ⟨o2, _⟩ := ok6_ok h2
    obtain ⟨o3, _⟩ := ok6_ok h3
    obtain ⟨o4, _⟩ := ok6_ok h4
    generalize sq0.qv b n d = x at *
    generalize sq0.qv c m e = y at *
    generalize sq0.qv b2 n2 d2 = u at *
    generalize sq0.qv c2 m2 e2 = v at *
    have s1 := szq_mul x u
    have s2 := szq_mul y v
    have s3 := szq_mul y u
    have s4 := szq_mul x v
    have s5 := szq_neg (y * v)
    have a1 := ok_rat (q := x * u) (by omega)
    have a2 := ok_rat (q := y * v) (by omega)
    have a3 := ok_rat (q := y * u) (by omega)
    have a4 := ok_rat (q := x * v) (by omega)
    have a5 := ok_rat (q := -(y * v)) (by omega)
    simp only [qv_rat, qv_nil, Rat.zero_add, ← Rat.sub_eq_add_neg, qok_nil, o1, o2, o3, o4, a1, a2, a3, a4, a5, Bool.and_self, cond_true] at hcall
    exact hcall
  · cases h
theorem eKImage : Entry Try.prog 37 (tKThen sq0) := by
  refine entry_of (E := ⟨CKr sg0 sq0, Kall, noL⟩) (u := 10) (d := 10) CKr_ok loops_none mixed (by kernel_rfl) (fun args r h => ?_)
  unfold tKThen tK2 k2 at h
  split at h
  · rename_i b n d c m e b2 n2 d2 c2 m2 e2
    simp only [Option.some.injEq, Prod.mk.injEq, Bool.and_eq_true] at h
    obtain ⟨⟨⟨⟨h1, h2⟩, h3⟩, h4⟩, rfl⟩ := h
    have hcall := kimage_tree sg0 sq0 b c b2 c2 n d m e n2 d2 m2 e2
    have z1 := ok6_sz (b := b) h1
    have z2 := ok6_sz (b := c) h2
    have z3 := ok6_sz (b := b2) h3
    have z4 := ok6_sz (b := c2) h4
    obtain ⟨o1, _⟩ := ok6_ok h1
    obtain ⟨o2, _⟩ := ok6_ok h2
    obtain ⟨o3, _⟩ := ok6_ok h3
    obtain ⟨o4, _⟩ := ok6_ok h4
    generalize sq0.qv b n d = x at *
    generalize sq0.qv c m e = y at *
    generalize sq0.qv b2 n2 d2 = u at *
    generalize sq0.qv c2 m2 e2 = v at *
    have s1 := szq_mul x u
    have s2 := szq_mul y v
    have s3 := szq_mul y u
    have s4 := szq_mul x v
    have s5 := szq_neg (y * v)
    have a1 := ok_rat (q := x * u) (by omega)
    have a2 := ok_rat (q := y * v) (by omega)
    have a3 := ok_rat (q := y * u) (by omega)
    have a4 := ok_rat (q := x * v) (by omega)
    have a5 := ok_rat (q := -(y * v)) (by omega)
    simp only [qv_rat, qv_nil, Rat.zero_add, ← Rat.sub_eq_add_neg, qok_nil, o1, o2, o3, o4, a1, a2, a3, a4, a5, Bool.and_self, cond_true] at hcall
    exact hcall
  · cases h
theorem eKBack : Entry Try.prog 24 (tKBack sq0) := by
  refine entry_of (E := ⟨CKr sg0 sq0, Kall, noL⟩) (u := 10) (d := 10) CKr_ok loops_none mixed (by kernel_rfl) (fun args r h => ?_)
  unfold tKBack k1 at h
  split at h
  · rename_i b n d c m e
    simp only [Option.some.injEq, Prod.mk.injEq, Bool.and_eq_true] at h
    obtain ⟨⟨h1, h2⟩, rfl⟩ := h
    have hcall := kback_tree sg0 sq0 b c n d m e
    obtain ⟨o2, _⟩ := ok6_ok h2
    rw [o2] at hcall
    exact hcall
  · cases h
theorem eKOf : Entry Try.prog 7 (tKOf sq0) := by
  refine entry_of (E := ⟨CKr sg0 sq0, Kall, noL⟩) (u := 10) (d := 10) CKr_ok loops_none mixed (by kernel_rfl) (fun args r h => ?_)
  unfold tKOf k0 at h
  split at h
  · rename_i b n d
    simp only [Option.some.injEq, Prod.mk.injEq] at h
    obtain ⟨h1, rfl⟩ := h
    have hcall := kof_tree sg0 sq0 b n d
    have z1 := ok6_sz (b := b) h1
    obtain ⟨o1, _⟩ := ok6_ok h1
    generalize sq0.qv b n d = t at *
    have s1 := szq_mul t t
    have s2 := szq_add 1 (t * t)
    have s3 := szq_sub 1 (t * t)
    have s4 := szq_add t t
    have s5 := szq_one
    have a1 := ok_rat (q := t * t) (by omega)
    have a2 := ok_rat (q := 1 + t * t) (by omega)
    have a3 := ok_rat (q := 1 - t * t) (by omega)
    have a4 := ok_rat (q := t + t) (by omega)
    have a5 := ok_rat (q := (1 : Rat)) (by omega)
    have a6 := ok_rat (q := t) (by omega)
    simp only [qv_rat, qv_nil, Rat.zero_add, fr_11, inI1, qok_nil, o1, a1, a2, a3, a4, a5, a6, Bool.and_self, cond_true] at hcall
    exact hcall
  · cases h
theorem eKHalf : Entry Try.prog 36 (tKHalf sq0 kg0) := by
  refine entry_of (E := ⟨CKr sg0 sq0, Kall, noL⟩) (u := 10) (d := 10) CKr_ok loops_none mixed (by kernel_rfl) (fun args r h => ?_)
  unfold tKHalf tK1 k1 at h
  split at h
  · rename_i b n d c m e
    simp only [Option.some.injEq, Prod.mk.injEq, Bool.and_eq_true] at h
    obtain ⟨⟨h1, h2⟩, rfl⟩ := h
    have hcall := khalf_tree sg0 sq0 b c n d m e
    obtain ⟨o1, _⟩ := ok6_ok h1
    obtain ⟨o2, _⟩ := ok6_ok h2
    have hh : ∀ x y, kg0.hf x y = hfn x y := fun x y => rfl
    rw [hh]
    unfold hfn
    simp only [sqz, o1, o2] at hcall
    generalize sq0.qv b n d = x at *
    generalize sq0.qv c m e = y at *
    rcases sgn_cases y with ⟨g1, g2⟩ | ⟨g1, g2⟩ | ⟨g1, g2⟩ <;> rcases sgn_cases x with ⟨g3, g4⟩ | ⟨g3, g4⟩ | ⟨g3, g4⟩
    · rw [g2, g4] at hcall; rw [hcall, if_pos g1]; rfl
    · rw [g2, g4] at hcall; rw [hcall, if_pos g1]; rfl
    · rw [g2, g4] at hcall; rw [hcall, if_pos g1]; rfl
    · rw [g2, g4] at hcall; rw [hcall, if_neg (by grind), if_pos g1, if_pos g3]; rfl
    · rw [g2, g4] at hcall; rw [hcall, if_neg (by grind), if_pos g1, if_neg (by grind)]; rfl
    · rw [g2, g4] at hcall; rw [hcall, if_neg (by grind), if_pos g1, if_neg (by grind)]; rfl
    · rw [g2, g4] at hcall; rw [hcall, if_neg (by grind), if_neg (by grind)]; rfl
    · rw [g2, g4] at hcall; rw [hcall, if_neg (by grind), if_neg (by grind)]; rfl
    · rw [g2, g4] at hcall; rw [hcall, if_neg (by grind), if_neg (by grind)]; rfl
  · cases h
end
end Go.Proofs.Ythimfbeemicbhaa.L
namespace Go.Proofs.Ythimfbeemicbhaa.L
open Go Go.V Go.RowKit Go.Proofs.Ythimfbeemicbhaa.Sp Go.Proofs.Ythimfbeemicbhaa.F
open Go.Proofs (Try.prog)
noncomputable section
theorem CKx_ok : Meets Try.prog (CKx sg0 sq0 kg0) := ((((CKr_ok.add eKHalf).add eKImage).add eKBack).add eKThen).add eKCheck
theorem pair_zero : sq0.pair 0 0 = .agg [.val (.bool false), .val (.string (ByteArray.mk #[])), .val (.string (ByteArray.mk #[])), .val (.bool false), .val (.string (ByteArray.mk #[])), .val (.string (ByteArray.mk #[]))] := by
  have h := rat_zero
  have h2 : sq0.rat 0 = .agg [.val (.bool (sq0.qn 0)), .val (.string (sq0.qs 0)), .val (.string (sq0.qd 0))] := rfl
  rw [h2] at h
  simp only [AV.agg.injEq, List.cons.injEq, AV.val.injEq, Value.bool.injEq, Value.string.injEq, and_true] at h
  obtain ⟨e1, e2, e3⟩ := h
  unfold Qg.pair
  rw [e1, e2, e3]
theorem or2_n1 {k l : Int} (h : ¬ k = 0) : kg0.or2 k l = 1 := if_neg (fun g => h g.1)
theorem or2_n2 {k l : Int} (h : ¬ l = 0) : kg0.or2 k l = 1 := if_neg (fun g => h g.2)
theorem or1_n {k : Int} (h : ¬ k = 0) : kg0.or1 k = 1 := if_neg (fun g => h g.1)
theorem sel_1 (q : Rat) : kg0.sel 1 q = 0 := (show (if (1 : Int) = 0 then q else 0) = 0 from if_neg (by decide))
theorem sel_0 (q : Rat) : kg0.sel 0 q = q := (show (if (0 : Int) = 0 then q else 0) = q from if_pos rfl)
theorem eXNone : Entry Try.prog 16 (xKNone sq0) := by
  refine entry_of (E := ⟨CKx sg0 sq0 kg0, Kall, noL⟩) (u := 10) (d := 10) CKx_ok loops_none mixed (by kernel_rfl) (fun args r h => ?_)
  unfold xKNone at h
  split at h
  · cases h
    have hcall := xnone_tree sg0 sq0 kg0
    rw [fr_11] at hcall
    rw [hcall]
    have h := rat_zero
    have h2 : sq0.rat 0 = .agg [.val (.bool (sq0.qn 0)), .val (.string (sq0.qs 0)), .val (.string (sq0.qd 0))] := rfl
    rw [h2] at h
    simp only [AV.agg.injEq, List.cons.injEq, AV.val.injEq, Value.bool.injEq, Value.string.injEq, and_true] at h
    obtain ⟨e1, e2, e3⟩ := h
    unfold Qg.pair
    rw [e1, e2, e3]
  · cases h
theorem eXThen : Entry Try.prog 14 (xKThen sq0 kg0) := by
  refine entry_of (E := ⟨CKx sg0 sq0 kg0, Kall, noL⟩) (u := 10) (d := 10) CKx_ok loops_none mixed (by kernel_rfl) (fun args r h => ?_)
  unfold xKThen k2 at h
  split at h
  · rename_i b n d c m e b2 n2 d2 c2 m2 e2
    simp only [Option.some.injEq, Prod.mk.injEq, Bool.and_eq_true] at h
    obtain ⟨⟨⟨⟨h1, h2⟩, h3⟩, h4⟩, rfl⟩ := h
    have hcall := xthen_tree sg0 sq0 kg0 b c b2 c2 n d m e n2 d2 m2 e2
    rw [h1, h2, h3, h4] at hcall
    rw [hcall]
    by_cases k1 : kg0.kc b n d c m e = 0
    · by_cases k2 : kg0.kc b2 n2 d2 c2 m2 e2 = 0
      · rw [dT k1, dT k2, k1, k2]; rfl
      · rw [dT k1, dF k2, or2_n2 k2, sel_1, sel_1, pair_zero]; rfl
    · rw [dF k1, or2_n1 k1, sel_1, sel_1, pair_zero]; rfl
  · cases h
theorem eXBack : Entry Try.prog 8 (xKBack sq0 kg0) := by
  refine entry_of (E := ⟨CKx sg0 sq0 kg0, Kall, noL⟩) (u := 10) (d := 10) CKx_ok loops_none mixed (by kernel_rfl) (fun args r h => ?_)
  unfold xKBack k1 at h
  split at h
  · rename_i b n d c m e
    simp only [Option.some.injEq, Prod.mk.injEq, Bool.and_eq_true] at h
    obtain ⟨⟨h1, h2⟩, rfl⟩ := h
    have hcall := xback_tree sg0 sq0 kg0 b c n d m e
    rw [h1, h2] at hcall
    rw [hcall]
    by_cases k1 : kg0.kc b n d c m e = 0
    · obtain ⟨c1, _, _⟩ := kc_zero k1
      obtain ⟨e1, e2, e3⟩ := ck_canon c1
      rw [dT k1, k1]
      show some (AV.tup [.agg [.val (.bool b), .val (.string n), .val (.string d), _, _, _], _]) = some (AV.tup [.agg [.val (.bool (sq0.qn (sq0.qv b n d))), .val (.string (sq0.qs (sq0.qv b n d))), .val (.string (sq0.qd (sq0.qv b n d))), _, _, _], _])
      rw [← e1, ← e2, ← e3]; rfl
    · rw [dF k1, or1_n k1, sel_1, sel_1, pair_zero]; rfl
  · cases h
end
end Go.Proofs.Ythimfbeemicbhaa.L
