import Derived.Test.YthimfbeemicbhaaRows
import Derived.Test.YthimfbeemicbhaaZKC
import Derived.Test.YthimfbeemicbhaaZKA
import Derived.WalkKit
import Derived.ProofKit
import Derived.OpenShut
import Derived.ShutString
import Derived.ChangeOld
import Derived.Below
import Derived.SizedLaws
import Derived.Lib.SmallJoins
set_option linter.unusedVariables false
set_option linter.unusedSimpArgs false
namespace Go.Proofs.Ythimfbeemicbhaa.rotationTangents
open Go.ChangeShapes Go.WideShapes Go.ChangeAt Go.RowKit Go.Joins
open Go.ChangeMaps (open_string shut_string)
theorem own : ownKnob Try.prog.godebug = none := by kernel_rfl
set_option maxRecDepth 100000 in
theorem lifted (os : Os) (started : os.Started) (H : Type) (enc : TypeId × Value → H) :
    ReturnsInHanded {} Try.checked os 3 .any (Rows.rotationTangentsSpec.pre6 enc Try.prog Try.f3 Rows.rotationTangentsRow.domain false) (Rows.rotationTangentsSpec.post enc Try.prog Try.f3 false true false false) := by
  refine returnsInHanded_of_change_sized (C := Try.checked) own started (by kernel_rfl) Try.func3
    (ChangeSpec.witness6 (enc := enc) (C := Try.checked) false ⟨#[], #[.agg #[.bool false, .string ByteArray.empty, .string ByteArray.empty], .agg #[.bool false, .string ByteArray.empty, .string ByteArray.empty, .bool false, .string ByteArray.empty, .string ByteArray.empty]], []⟩ 8 (by kernel_rfl) (by kernel_rfl) (by kernel_rfl) (by kernel_rfl)) ?_
  intro W base args ds gs before hval0 hW hcnd hsz0 _
  have hval : ∀ (j : Nat) t v, Try.f3.params[j]? = some t → args[j]? = some v → Value.okWide Try.prog W .any base t v := hval0
  have hW' := hW
  obtain ⟨p, q, hA0, hV, rfl, hfz, hnd⟩ := hW
  have hA : DataW.TrodAll enc Try.prog W 0 (fun _ => true) true Try.f3.params.toList args.toList ds p := hA0
  rw [Try.params3] at hA hval
  obtain ⟨v0, vs0, d0, ds0, p0, q0, hargs, rfl, rfl, h0, r0⟩ := trodAll_cons hA
  obtain ⟨v1, vs1, d1, ds1, p1, q1, rfl, rfl, rfl, h1, r1⟩ := trodAll_cons r0
  obtain ⟨rfl, rfl, rfl⟩ := trodAll_nil r1
  obtain rfl : args = #[v0, v1] := by cases args; simp_all
  obtain ⟨rfl, rfl⟩ := trodVars_none hV
  obtain ⟨c0, e0, f0, y0, z0, x0, m0, rfl, rfl, rfl, hy0, hz0, hx0⟩ := open_agg3 Try.underlying23 (by kernel_rfl) (show Try.prog.cellsOf 23 = 3 by kernel_rfl) (hval 0 23 v0 rfl rfl) h0
  obtain ⟨a0, g0, rfl⟩ := DataW.trod_bool (show Try.prog.underlying _ = some .bool from by kernel_rfl) hy0
  obtain ⟨b0, k0, rfl, w0⟩ := DataW.trod_string (show Try.prog.underlying _ = some .string from by kernel_rfl) hz0
  obtain ⟨bb0, kk0, rfl, ww0⟩ := DataW.trod_string (show Try.prog.underlying _ = some .string from by kernel_rfl) hx0
  simp only [List.cons.injEq, and_true] at g0 k0 kk0
  subst g0 k0 kk0
  obtain ⟨c10, c11, c12, c13, c14, c15, y10, y11, y12, y13, y14, y15, m1, rfl, rfl, rfl, ⟨hy10, hy11, hy12⟩, m11, hy13, hy14, hy15⟩ := L.open_pair (⟨Try.underlying25, by kernel_rfl, rfl, rfl, rfl, rfl, Try.underlying23, by kernel_rfl, by kernel_rfl⟩ : L.PairT Try.prog 25 23 _ _ _ _ _) (hval 1 25 v1 rfl rfl) h1
  obtain ⟨a10, g10, rfl⟩ := DataW.trod_bool (show Try.prog.underlying _ = some .bool from by kernel_rfl) hy10
  obtain ⟨a11, g11, rfl, w11⟩ := DataW.trod_string (show Try.prog.underlying _ = some .string from by kernel_rfl) hy11
  obtain ⟨a12, g12, rfl, w12⟩ := DataW.trod_string (show Try.prog.underlying _ = some .string from by kernel_rfl) hy12
  obtain ⟨a13, g13, rfl⟩ := DataW.trod_bool (show Try.prog.underlying _ = some .bool from by kernel_rfl) hy13
  obtain ⟨a14, g14, rfl, w14⟩ := DataW.trod_string (show Try.prog.underlying _ = some .string from by kernel_rfl) hy14
  obtain ⟨a15, g15, rfl, w15⟩ := DataW.trod_string (show Try.prog.underlying _ = some .string from by kernel_rfl) hy15
  simp only [List.cons.injEq, and_true] at g10 g11 g12 g13 g14 g15
  subst g10 g11 g12 g13 g14 g15
  clear hA0 hval0 hsz0
  refine (Go.Proofs.Ythimfbeemicbhaa.L.tangents_walk a0 b0 bb0 a10 a11 a12 a13 a14 a15 W).mono fun e W' ⟨he, bel⟩ => ?_
  subst he
  exact ⟨_, rfl, _, _, _, [], _, [], hW', trodAll_mk1 (shut_bool Try.underlying4 _), (trodAll_cons_mk (shut_agg3 (y0 := (.lit (.bool a0), [])) (y1 := (.lit (.string b0.data.toList), [])) (y2 := (.lit (.string bb0.data.toList), [])) Try.underlying23 (by kernel_rfl) (show Try.prog.cellsOf 23 = 3 by kernel_rfl) ⟨1, by simp [DataW.trod, show Try.checked.prog.underlying 4 = some .bool from by kernel_rfl]⟩ ⟨1, by simp [DataW.trod, show Try.checked.prog.underlying 9 = some .string from by kernel_rfl, w0]⟩ ⟨1, by simp [DataW.trod, show Try.checked.prog.underlying 9 = some .string from by kernel_rfl, ww0]⟩) (trodAll_cons_mk (L.shut_pair (y0 := (.lit (.bool a10), [])) (y1 := (.lit (.string a11.data.toList), [])) (y2 := (.lit (.string a12.data.toList), [])) (y3 := (.lit (.bool a13), [])) (y4 := (.lit (.string a14.data.toList), [])) (y5 := (.lit (.string a15.data.toList), [])) (⟨Try.underlying25, by kernel_rfl, rfl, rfl, rfl, rfl, Try.underlying23, by kernel_rfl, by kernel_rfl⟩ : L.PairT Try.prog 25 23 _ _ _ _ _) ⟨1, by simp [DataW.trod, show Try.checked.prog.underlying 4 = some .bool from by kernel_rfl]⟩ ⟨1, by simp [DataW.trod, show Try.checked.prog.underlying 9 = some .string from by kernel_rfl, w11]⟩ ⟨1, by simp [DataW.trod, show Try.checked.prog.underlying 9 = some .string from by kernel_rfl, w12]⟩ ⟨1, by simp [DataW.trod, show Try.checked.prog.underlying 4 = some .bool from by kernel_rfl]⟩ ⟨1, by simp [DataW.trod, show Try.checked.prog.underlying 9 = some .string from by kernel_rfl, w14]⟩ ⟨1, by simp [DataW.trod, show Try.checked.prog.underlying 9 = some .string from by kernel_rfl, w15]⟩) trodAll_mk0)), rfl, bel.frame _, fun h => by cases h⟩
theorem over : Rows.rotationTangentsRow.holds Try.pinned (OpenSpec.ofChange Rows.rotationTangentsSpec) :=
  OpenClaim.holds_of_wide 3 Try.f3 rfl rfl rfl rfl rfl rfl rfl ⟨rfl, rfl, rfl, rfl, rfl⟩ rfl rfl rfl rfl rfl (by kernel_rfl) Try.func3 (by kernel_rfl)
    (of_decide_eq_true (by kernel_rfl)) (by unfold Func.isWrapper; first | (rw [if_pos (by decide +kernel)]; kernel_rfl) | (rw [if_neg (by decide +kernel)]; exact ⟨rfl, rfl⟩))
    (fun os started H enc _ => lifted os started H enc)
theorem proved : Rows.RotationTangentsSaid := over
#print axioms proved
end Go.Proofs.Ythimfbeemicbhaa.rotationTangents
namespace Go.Proofs.Ythimfbeemicbhaa
theorem rotationTangents_holds : Rows.RotationTangentsSaid := rotationTangents.proved
end Go.Proofs.Ythimfbeemicbhaa
