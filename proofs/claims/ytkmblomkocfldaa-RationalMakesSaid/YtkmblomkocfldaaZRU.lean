/- RationalMakes holds: whatever the input, the law returns true, and the input reads as it did. -/
import Derived.Test.YtkmblomkocfldaaRows
import Derived.Test.YtkmblomkocfldaaZLU
import Derived.WalkKit
import Derived.ProofKit
import Derived.OpenShut
import Derived.ShutString
import Derived.ChangeOld
import Derived.Below
import Derived.SizedLaws
import Derived.Lib.SmallJoins
set_option linter.unusedVariables false
set_option linter.unusedSimpArgs false

/- RationalMakes holds: whatever the input, the law returns true, and the input reads as it did. -/
namespace Go.Proofs.Ytkmblomkocfldaa.rationalMakes
open Go.ChangeShapes Go.WideShapes Go.ChangeAt Go.RowKit Go.Joins
open Go.ChangeMaps (open_string shut_string)
set_option linter.unusedVariables false
theorem own : ownKnob Try.prog.godebug = none := by kernel_rfl
set_option maxRecDepth 100000 in
theorem lifted (os : Os) (started : os.Started) (H : Type) (enc : TypeId × Value → H) :
    ReturnsInHanded {} Try.checked os 7 .any (Rows.rationalMakesSpec.pre6 enc Try.prog Try.f7 Rows.rationalMakesRow.domain false) (Rows.rationalMakesSpec.post enc Try.prog Try.f7 false true false false) := by
  refine returnsInHanded_of_change_sized (C := Try.checked) own started (by kernel_rfl) Try.func7
    (ChangeSpec.witness6 (enc := enc) (C := Try.checked) false ⟨#[], #[.int .i64 0, .int .i64 0, .agg #[.bool false, .string ByteArray.empty], .agg #[.bool false, .string ByteArray.empty], .agg #[.bool false, .string ByteArray.empty, .string ByteArray.empty]], []⟩ 8 (by kernel_rfl) (by kernel_rfl) (by kernel_rfl) (by kernel_rfl)) ?_
  intro W base args ds gs before hval0 hW hcnd hsz0 _
  have hval : ∀ (j : Nat) t v, Try.f7.params[j]? = some t → args[j]? = some v → Value.okWide Try.prog W .any base t v := hval0
  have hW' := hW
  obtain ⟨p, q, hA0, hV, rfl, hfz, hnd⟩ := hW
  have hA : DataW.TrodAll enc Try.prog W 0 (fun _ => true) true Try.f7.params.toList args.toList ds p := hA0
  rw [Try.params7] at hA hval
  obtain ⟨v0, vs0, d0, ds0, p0, q0, hargs, rfl, rfl, h0, r0⟩ := trodAll_cons hA
  obtain ⟨v1, vs1, d1, ds1, p1, q1, rfl, rfl, rfl, h1, r1⟩ := trodAll_cons r0
  obtain ⟨v2, vs2, d2, ds2, p2, q2, rfl, rfl, rfl, h2, r2⟩ := trodAll_cons r1
  obtain ⟨v3, vs3, d3, ds3, p3, q3, rfl, rfl, rfl, h3, r3⟩ := trodAll_cons r2
  obtain ⟨v4, vs4, d4, ds4, p4, q4, rfl, rfl, rfl, h4, r4⟩ := trodAll_cons r3
  obtain ⟨rfl, rfl, rfl⟩ := trodAll_nil r4
  obtain rfl : args = #[v0, v1, v2, v3, v4] := by cases args; simp_all
  obtain ⟨rfl, rfl⟩ := trodVars_none hV
  obtain ⟨a0, rfl, rfl, rfl, w0⟩ := open_int Try.underlying3 (hval 0 3 v0 rfl rfl) h0
  obtain ⟨a1, rfl, rfl, rfl, w1⟩ := open_int Try.underlying3 (hval 1 3 v1 rfl rfl) h1
  obtain ⟨c2, e2, y2, z2, m2, rfl, rfl, rfl, hy2, hz2⟩ := open_agg2 Try.underlying27 (by kernel_rfl) (show Try.prog.cellsOf 27 = 2 by kernel_rfl) (hval 2 27 v2 rfl rfl) h2
  obtain ⟨a2, g2, rfl⟩ := DataW.trod_bool (show Try.prog.underlying _ = some .bool from by kernel_rfl) hy2
  obtain ⟨b2, k2, rfl, w2⟩ := DataW.trod_string (show Try.prog.underlying _ = some .string from by kernel_rfl) hz2
  simp only [List.cons.injEq, and_true] at g2 k2
  subst g2 k2
  obtain ⟨c3, e3, y3, z3, m3, rfl, rfl, rfl, hy3, hz3⟩ := open_agg2 Try.underlying27 (by kernel_rfl) (show Try.prog.cellsOf 27 = 2 by kernel_rfl) (hval 3 27 v3 rfl rfl) h3
  obtain ⟨a3, g3, rfl⟩ := DataW.trod_bool (show Try.prog.underlying _ = some .bool from by kernel_rfl) hy3
  obtain ⟨b3, k3, rfl, w3⟩ := DataW.trod_string (show Try.prog.underlying _ = some .string from by kernel_rfl) hz3
  simp only [List.cons.injEq, and_true] at g3 k3
  subst g3 k3
  obtain ⟨c4, e4, f4, y4, z4, x4, m4, rfl, rfl, rfl, hy4, hz4, hx4⟩ := open_agg3 Try.underlying23 (by kernel_rfl) (show Try.prog.cellsOf 23 = 3 by kernel_rfl) (hval 4 23 v4 rfl rfl) h4
  obtain ⟨a4, g4, rfl⟩ := DataW.trod_bool (show Try.prog.underlying _ = some .bool from by kernel_rfl) hy4
  obtain ⟨b4, k4, rfl, w4⟩ := DataW.trod_string (show Try.prog.underlying _ = some .string from by kernel_rfl) hz4
  obtain ⟨bb4, kk4, rfl, ww4⟩ := DataW.trod_string (show Try.prog.underlying _ = some .string from by kernel_rfl) hx4
  simp only [List.cons.injEq, and_true] at g4 k4 kk4
  subst g4 k4 kk4
  clear hA0 hval0 hsz0
  refine (Go.Proofs.Ytkmblomkocfldaa.L.makes_walk a0 w0 a1 w1 a2 b2 a3 b3 a4 b4 bb4 W).mono fun e W' ⟨he, bel⟩ => ?_
  subst he
  exact ⟨_, rfl, _, _, _, [], _, [], hW', trodAll_mk1 (shut_bool Try.underlying4 _), (trodAll_cons_mk (shut_int Try.underlying3 w0) (trodAll_cons_mk (shut_int Try.underlying3 w1) (trodAll_cons_mk (shut_agg2 (y0 := (.lit (.bool a2), [])) (y1 := (.lit (.string b2.data.toList), [])) Try.underlying27 (by kernel_rfl) (show Try.prog.cellsOf 27 = 2 by kernel_rfl) ⟨1, by simp [DataW.trod, show Try.checked.prog.underlying 4 = some .bool from by kernel_rfl]⟩ ⟨1, by simp [DataW.trod, show Try.checked.prog.underlying 9 = some .string from by kernel_rfl, w2]⟩) (trodAll_cons_mk (shut_agg2 (y0 := (.lit (.bool a3), [])) (y1 := (.lit (.string b3.data.toList), [])) Try.underlying27 (by kernel_rfl) (show Try.prog.cellsOf 27 = 2 by kernel_rfl) ⟨1, by simp [DataW.trod, show Try.checked.prog.underlying 4 = some .bool from by kernel_rfl]⟩ ⟨1, by simp [DataW.trod, show Try.checked.prog.underlying 9 = some .string from by kernel_rfl, w3]⟩) (trodAll_cons_mk (shut_agg3 (y0 := (.lit (.bool a4), [])) (y1 := (.lit (.string b4.data.toList), [])) (y2 := (.lit (.string bb4.data.toList), [])) Try.underlying23 (by kernel_rfl) (show Try.prog.cellsOf 23 = 3 by kernel_rfl) ⟨1, by simp [DataW.trod, show Try.checked.prog.underlying 4 = some .bool from by kernel_rfl]⟩ ⟨1, by simp [DataW.trod, show Try.checked.prog.underlying 9 = some .string from by kernel_rfl, w4]⟩ ⟨1, by simp [DataW.trod, show Try.checked.prog.underlying 9 = some .string from by kernel_rfl, ww4]⟩) trodAll_mk0))))), rfl, bel.frame _, fun h => by cases h⟩
theorem over : Rows.rationalMakesRow.holds Try.pinned (OpenSpec.ofChange Rows.rationalMakesSpec) :=
  OpenClaim.holds_of_wide 7 Try.f7 rfl rfl rfl rfl rfl rfl rfl ⟨rfl, rfl, rfl, rfl, rfl⟩ rfl rfl rfl rfl rfl (by kernel_rfl) Try.func7 (by kernel_rfl)
    (of_decide_eq_true (by kernel_rfl)) (by unfold Func.isWrapper; first | (rw [if_pos (by decide +kernel)]; kernel_rfl) | (rw [if_neg (by decide +kernel)]; exact ⟨rfl, rfl⟩))
    (fun os started H enc _ => lifted os started H enc)
theorem proved : Rows.RationalMakesSaid := over
#print axioms proved
end Go.Proofs.Ytkmblomkocfldaa.rationalMakes
namespace Go.Proofs.Ytkmblomkocfldaa
/-- The row, under a short name, for the claim. -/
theorem rationalMakes_holds : Rows.RationalMakesSaid := rationalMakes.proved
end Go.Proofs.Ytkmblomkocfldaa
