import Derived.Test.YtnmnglcdoegbiaaGreatRows
import Derived.Test.YtnmnglcdoegbiaaGreatZKC
import Derived.Test.YtnmnglcdoegbiaaGreatZKA
import Derived.WalkKit
import Derived.ProofKit
import Derived.OpenShut
import Derived.ShutString
import Derived.ChangeOld
import Derived.Below
import Derived.SizedLaws
import Derived.Lib.SmallJoins
set_option linter.unusedVariables false
set_option linter.unusedSimpArgs false
namespace Go.Proofs.YtnmnglcdoegbiaaGreat.rotationOrders
open Go.ChangeShapes Go.WideShapes Go.ChangeAt Go.RowKit Go.Joins
open Go.ChangeMaps (open_string shut_string)
theorem own : ownKnob Tryz.prog.godebug = none := by kernel_rfl
set_option maxRecDepth 100000 in
theorem lifted (os : Os) (started : os.Started) (H : Type) (enc : TypeId × Value → H) :
    ReturnsInHanded {} Tryz.checked os 7 .any (Rows.rotationOrdersSpec.pre6 enc Tryz.prog Tryz.f7 Rows.rotationOrdersRow.domain false) (Rows.rotationOrdersSpec.post enc Tryz.prog Tryz.f7 false true false false) := by
  refine returnsInHanded_of_change_sized (C := Tryz.checked) own started (by kernel_rfl) Tryz.func7
    (ChangeSpec.witness6 (enc := enc) (C := Tryz.checked) false ⟨#[], #[.agg #[.bool false, .string ByteArray.empty, .string ByteArray.empty, .bool false, .string ByteArray.empty, .string ByteArray.empty], .agg #[.bool false, .string ByteArray.empty, .string ByteArray.empty, .bool false, .string ByteArray.empty, .string ByteArray.empty], .agg #[.bool false, .string ByteArray.empty, .string ByteArray.empty, .bool false, .string ByteArray.empty, .string ByteArray.empty], .agg #[.bool false, .string ByteArray.empty, .string ByteArray.empty, .bool false, .string ByteArray.empty, .string ByteArray.empty]], []⟩ 8 (by kernel_rfl) (by kernel_rfl) (by kernel_rfl) (by kernel_rfl)) ?_
  intro W base args ds gs before hval0 hW hcnd hsz0 _
  have hval : ∀ (j : Nat) t v, Tryz.f7.params[j]? = some t → args[j]? = some v → Value.okWide Tryz.prog W .any base t v := hval0
  have hW' := hW
  obtain ⟨p, q, hA0, hV, rfl, hfz, hnd⟩ := hW
  have hA : DataW.TrodAll enc Tryz.prog W 0 (fun _ => true) true Tryz.f7.params.toList args.toList ds p := hA0
  rw [Tryz.params7] at hA hval
  obtain ⟨v0, vs0, d0, ds0, p0, q0, hargs, rfl, rfl, h0, r0⟩ := trodAll_cons hA
  obtain ⟨v1, vs1, d1, ds1, p1, q1, rfl, rfl, rfl, h1, r1⟩ := trodAll_cons r0
  obtain ⟨v2, vs2, d2, ds2, p2, q2, rfl, rfl, rfl, h2, r2⟩ := trodAll_cons r1
  obtain ⟨v3, vs3, d3, ds3, p3, q3, rfl, rfl, rfl, h3, r3⟩ := trodAll_cons r2
  obtain ⟨rfl, rfl, rfl⟩ := trodAll_nil r3
  obtain rfl : args = #[v0, v1, v2, v3] := by cases args; simp_all
  obtain ⟨rfl, rfl⟩ := trodVars_none hV
  obtain ⟨c00, c01, c02, c03, c04, c05, y00, y01, y02, y03, y04, y05, m0, rfl, rfl, rfl, ⟨hy00, hy01, hy02⟩, m01, hy03, hy04, hy05⟩ := L.open_pair (⟨Tryz.underlying25, by kernel_rfl, rfl, rfl, rfl, rfl, Tryz.underlying23, by kernel_rfl, by kernel_rfl⟩ : L.PairT Tryz.prog 25 23 _ _ _ _ _) (hval 0 25 v0 rfl rfl) h0
  obtain ⟨a00, g00, rfl⟩ := DataW.trod_bool (show Tryz.prog.underlying _ = some .bool from by kernel_rfl) hy00
  obtain ⟨a01, g01, rfl, w01⟩ := DataW.trod_string (show Tryz.prog.underlying _ = some .string from by kernel_rfl) hy01
  obtain ⟨a02, g02, rfl, w02⟩ := DataW.trod_string (show Tryz.prog.underlying _ = some .string from by kernel_rfl) hy02
  obtain ⟨a03, g03, rfl⟩ := DataW.trod_bool (show Tryz.prog.underlying _ = some .bool from by kernel_rfl) hy03
  obtain ⟨a04, g04, rfl, w04⟩ := DataW.trod_string (show Tryz.prog.underlying _ = some .string from by kernel_rfl) hy04
  obtain ⟨a05, g05, rfl, w05⟩ := DataW.trod_string (show Tryz.prog.underlying _ = some .string from by kernel_rfl) hy05
  simp only [List.cons.injEq, and_true] at g00 g01 g02 g03 g04 g05
  subst g00 g01 g02 g03 g04 g05
  obtain ⟨c10, c11, c12, c13, c14, c15, y10, y11, y12, y13, y14, y15, m1, rfl, rfl, rfl, ⟨hy10, hy11, hy12⟩, m11, hy13, hy14, hy15⟩ := L.open_pair (⟨Tryz.underlying25, by kernel_rfl, rfl, rfl, rfl, rfl, Tryz.underlying23, by kernel_rfl, by kernel_rfl⟩ : L.PairT Tryz.prog 25 23 _ _ _ _ _) (hval 1 25 v1 rfl rfl) h1
  obtain ⟨a10, g10, rfl⟩ := DataW.trod_bool (show Tryz.prog.underlying _ = some .bool from by kernel_rfl) hy10
  obtain ⟨a11, g11, rfl, w11⟩ := DataW.trod_string (show Tryz.prog.underlying _ = some .string from by kernel_rfl) hy11
  obtain ⟨a12, g12, rfl, w12⟩ := DataW.trod_string (show Tryz.prog.underlying _ = some .string from by kernel_rfl) hy12
  obtain ⟨a13, g13, rfl⟩ := DataW.trod_bool (show Tryz.prog.underlying _ = some .bool from by kernel_rfl) hy13
  obtain ⟨a14, g14, rfl, w14⟩ := DataW.trod_string (show Tryz.prog.underlying _ = some .string from by kernel_rfl) hy14
  obtain ⟨a15, g15, rfl, w15⟩ := DataW.trod_string (show Tryz.prog.underlying _ = some .string from by kernel_rfl) hy15
  simp only [List.cons.injEq, and_true] at g10 g11 g12 g13 g14 g15
  subst g10 g11 g12 g13 g14 g15
  obtain ⟨c20, c21, c22, c23, c24, c25, y20, y21, y22, y23, y24, y25, m2, rfl, rfl, rfl, ⟨hy20, hy21, hy22⟩, m21, hy23, hy24, hy25⟩ := L.open_pair (⟨Tryz.underlying25, by kernel_rfl, rfl, rfl, rfl, rfl, Tryz.underlying23, by kernel_rfl, by kernel_rfl⟩ : L.PairT Tryz.prog 25 23 _ _ _ _ _) (hval 2 25 v2 rfl rfl) h2
  obtain ⟨a20, g20, rfl⟩ := DataW.trod_bool (show Tryz.prog.underlying _ = some .bool from by kernel_rfl) hy20
  obtain ⟨a21, g21, rfl, w21⟩ := DataW.trod_string (show Tryz.prog.underlying _ = some .string from by kernel_rfl) hy21
  obtain ⟨a22, g22, rfl, w22⟩ := DataW.trod_string (show Tryz.prog.underlying _ = some .string from by kernel_rfl) hy22
  obtain ⟨a23, g23, rfl⟩ := DataW.trod_bool (show Tryz.prog.underlying _ = some .bool from by kernel_rfl) hy23
  obtain ⟨a24, g24, rfl, w24⟩ := DataW.trod_string (show Tryz.prog.underlying _ = some .string from by kernel_rfl) hy24
  obtain ⟨a25, g25, rfl, w25⟩ := DataW.trod_string (show Tryz.prog.underlying _ = some .string from by kernel_rfl) hy25
  simp only [List.cons.injEq, and_true] at g20 g21 g22 g23 g24 g25
  subst g20 g21 g22 g23 g24 g25
  obtain ⟨c30, c31, c32, c33, c34, c35, y30, y31, y32, y33, y34, y35, m3, rfl, rfl, rfl, ⟨hy30, hy31, hy32⟩, m31, hy33, hy34, hy35⟩ := L.open_pair (⟨Tryz.underlying36, by kernel_rfl, rfl, rfl, rfl, rfl, Tryz.underlying23, by kernel_rfl, by kernel_rfl⟩ : L.PairT Tryz.prog 36 23 _ _ _ _ _) (hval 3 36 v3 rfl rfl) h3
  obtain ⟨a30, g30, rfl⟩ := DataW.trod_bool (show Tryz.prog.underlying _ = some .bool from by kernel_rfl) hy30
  obtain ⟨a31, g31, rfl, w31⟩ := DataW.trod_string (show Tryz.prog.underlying _ = some .string from by kernel_rfl) hy31
  obtain ⟨a32, g32, rfl, w32⟩ := DataW.trod_string (show Tryz.prog.underlying _ = some .string from by kernel_rfl) hy32
  obtain ⟨a33, g33, rfl⟩ := DataW.trod_bool (show Tryz.prog.underlying _ = some .bool from by kernel_rfl) hy33
  obtain ⟨a34, g34, rfl, w34⟩ := DataW.trod_string (show Tryz.prog.underlying _ = some .string from by kernel_rfl) hy34
  obtain ⟨a35, g35, rfl, w35⟩ := DataW.trod_string (show Tryz.prog.underlying _ = some .string from by kernel_rfl) hy35
  simp only [List.cons.injEq, and_true] at g30 g31 g32 g33 g34 g35
  subst g30 g31 g32 g33 g34 g35
  clear hA0 hval0 hsz0
  refine (Go.Proofs.YtnmnglcdoegbiaaGreat.L.orders_walk a00 a01 a02 a03 a04 a05 a10 a11 a12 a13 a14 a15 a20 a21 a22 a23 a24 a25 a30 a31 a32 a33 a34 a35 W).mono fun e W' ⟨he, bel⟩ => ?_
  subst he
  exact ⟨_, rfl, _, _, _, [], _, [], hW', trodAll_mk1 (shut_bool Tryz.underlying4 _), (trodAll_cons_mk (L.shut_pair (y0 := (.lit (.bool a00), [])) (y1 := (.lit (.string a01.data.toList), [])) (y2 := (.lit (.string a02.data.toList), [])) (y3 := (.lit (.bool a03), [])) (y4 := (.lit (.string a04.data.toList), [])) (y5 := (.lit (.string a05.data.toList), [])) (⟨Tryz.underlying25, by kernel_rfl, rfl, rfl, rfl, rfl, Tryz.underlying23, by kernel_rfl, by kernel_rfl⟩ : L.PairT Tryz.prog 25 23 _ _ _ _ _) ⟨1, by simp [DataW.trod, show Tryz.checked.prog.underlying 4 = some .bool from by kernel_rfl]⟩ ⟨1, by simp [DataW.trod, show Tryz.checked.prog.underlying 9 = some .string from by kernel_rfl, w01]⟩ ⟨1, by simp [DataW.trod, show Tryz.checked.prog.underlying 9 = some .string from by kernel_rfl, w02]⟩ ⟨1, by simp [DataW.trod, show Tryz.checked.prog.underlying 4 = some .bool from by kernel_rfl]⟩ ⟨1, by simp [DataW.trod, show Tryz.checked.prog.underlying 9 = some .string from by kernel_rfl, w04]⟩ ⟨1, by simp [DataW.trod, show Tryz.checked.prog.underlying 9 = some .string from by kernel_rfl, w05]⟩) (trodAll_cons_mk (L.shut_pair (y0 := (.lit (.bool a10), [])) (y1 := (.lit (.string a11.data.toList), [])) (y2 := (.lit (.string a12.data.toList), [])) (y3 := (.lit (.bool a13), [])) (y4 := (.lit (.string a14.data.toList), [])) (y5 := (.lit (.string a15.data.toList), [])) (⟨Tryz.underlying25, by kernel_rfl, rfl, rfl, rfl, rfl, Tryz.underlying23, by kernel_rfl, by kernel_rfl⟩ : L.PairT Tryz.prog 25 23 _ _ _ _ _) ⟨1, by simp [DataW.trod, show Tryz.checked.prog.underlying 4 = some .bool from by kernel_rfl]⟩ ⟨1, by simp [DataW.trod, show Tryz.checked.prog.underlying 9 = some .string from by kernel_rfl, w11]⟩ ⟨1, by simp [DataW.trod, show Tryz.checked.prog.underlying 9 = some .string from by kernel_rfl, w12]⟩ ⟨1, by simp [DataW.trod, show Tryz.checked.prog.underlying 4 = some .bool from by kernel_rfl]⟩ ⟨1, by simp [DataW.trod, show Tryz.checked.prog.underlying 9 = some .string from by kernel_rfl, w14]⟩ ⟨1, by simp [DataW.trod, show Tryz.checked.prog.underlying 9 = some .string from by kernel_rfl, w15]⟩) (trodAll_cons_mk (L.shut_pair (y0 := (.lit (.bool a20), [])) (y1 := (.lit (.string a21.data.toList), [])) (y2 := (.lit (.string a22.data.toList), [])) (y3 := (.lit (.bool a23), [])) (y4 := (.lit (.string a24.data.toList), [])) (y5 := (.lit (.string a25.data.toList), [])) (⟨Tryz.underlying25, by kernel_rfl, rfl, rfl, rfl, rfl, Tryz.underlying23, by kernel_rfl, by kernel_rfl⟩ : L.PairT Tryz.prog 25 23 _ _ _ _ _) ⟨1, by simp [DataW.trod, show Tryz.checked.prog.underlying 4 = some .bool from by kernel_rfl]⟩ ⟨1, by simp [DataW.trod, show Tryz.checked.prog.underlying 9 = some .string from by kernel_rfl, w21]⟩ ⟨1, by simp [DataW.trod, show Tryz.checked.prog.underlying 9 = some .string from by kernel_rfl, w22]⟩ ⟨1, by simp [DataW.trod, show Tryz.checked.prog.underlying 4 = some .bool from by kernel_rfl]⟩ ⟨1, by simp [DataW.trod, show Tryz.checked.prog.underlying 9 = some .string from by kernel_rfl, w24]⟩ ⟨1, by simp [DataW.trod, show Tryz.checked.prog.underlying 9 = some .string from by kernel_rfl, w25]⟩) (trodAll_cons_mk (L.shut_pair (y0 := (.lit (.bool a30), [])) (y1 := (.lit (.string a31.data.toList), [])) (y2 := (.lit (.string a32.data.toList), [])) (y3 := (.lit (.bool a33), [])) (y4 := (.lit (.string a34.data.toList), [])) (y5 := (.lit (.string a35.data.toList), [])) (⟨Tryz.underlying36, by kernel_rfl, rfl, rfl, rfl, rfl, Tryz.underlying23, by kernel_rfl, by kernel_rfl⟩ : L.PairT Tryz.prog 36 23 _ _ _ _ _) ⟨1, by simp [DataW.trod, show Tryz.checked.prog.underlying 4 = some .bool from by kernel_rfl]⟩ ⟨1, by simp [DataW.trod, show Tryz.checked.prog.underlying 9 = some .string from by kernel_rfl, w31]⟩ ⟨1, by simp [DataW.trod, show Tryz.checked.prog.underlying 9 = some .string from by kernel_rfl, w32]⟩ ⟨1, by simp [DataW.trod, show Tryz.checked.prog.underlying 4 = some .bool from by kernel_rfl]⟩ ⟨1, by simp [DataW.trod, show Tryz.checked.prog.underlying 9 = some .string from by kernel_rfl, w34]⟩ ⟨1, by simp [DataW.trod, show Tryz.checked.prog.underlying 9 = some .string from by kernel_rfl, w35]⟩) trodAll_mk0)))), rfl, bel.frame _, fun h => by cases h⟩
theorem over : Rows.rotationOrdersRow.holds Tryz.pinned (OpenSpec.ofChange Rows.rotationOrdersSpec) :=
  OpenClaim.holds_of_wide 7 Tryz.f7 rfl rfl rfl rfl rfl rfl rfl ⟨rfl, rfl, rfl, rfl, rfl⟩ rfl rfl rfl rfl rfl (by kernel_rfl) Tryz.func7 (by kernel_rfl)
    (of_decide_eq_true (by kernel_rfl)) (by unfold Func.isWrapper; first | (rw [if_pos (by decide +kernel)]; kernel_rfl) | (rw [if_neg (by decide +kernel)]; exact ⟨rfl, rfl⟩))
    (fun os started H enc _ => lifted os started H enc)
theorem proved : Rows.RotationOrdersSaid := over
#print axioms proved
end Go.Proofs.YtnmnglcdoegbiaaGreat.rotationOrders
namespace Go.Proofs.YtnmnglcdoegbiaaGreat
theorem rotationOrders_holds : Rows.RotationOrdersSaid := rotationOrders.proved
end Go.Proofs.YtnmnglcdoegbiaaGreat
