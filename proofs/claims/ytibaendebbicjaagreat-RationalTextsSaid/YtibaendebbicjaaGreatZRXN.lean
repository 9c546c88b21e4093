import Derived.Test.YtibaendebbicjaaGreatRows
import Derived.Test.YtibaendebbicjaaGreatZXA
import Derived.WalkKit
import Derived.ProofKit
import Derived.OpenShut
import Derived.ShutString
import Derived.ChangeOld
import Derived.Below
import Derived.SizedLaws
import Derived.Lib.SmallJoins
set_option linter.unusedVariables false
set_option linter.unusedSimpArgs false
namespace Go.Proofs.YtibaendebbicjaaGreat.rationalTexts
open Go.ChangeShapes Go.WideShapes Go.ChangeAt Go.RowKit Go.Joins
open Go.ChangeMaps (open_string shut_string)
theorem own : ownKnob Tryz.prog.godebug = none := by kernel_rfl
set_option maxRecDepth 100000 in
theorem lifted (os : Os) (started : os.Started) (H : Type) (enc : TypeId × Value → H) :
    ReturnsInHanded {} Tryz.checked os 3 .any (Rows.rationalTextsSpec.pre6 enc Tryz.prog Tryz.f3 Rows.rationalTextsRow.domain false) (Rows.rationalTextsSpec.post enc Tryz.prog Tryz.f3 false true false false) := by
  refine returnsInHanded_of_change_sized (C := Tryz.checked) own started (by kernel_rfl) Tryz.func3
    (ChangeSpec.witness6 (enc := enc) (C := Tryz.checked) false ⟨#[], #[.agg #[.bool false, .string ByteArray.empty, .string ByteArray.empty], .string ByteArray.empty], []⟩ 8 (by kernel_rfl) (by kernel_rfl) (by kernel_rfl) (by kernel_rfl)) ?_
  intro W base args ds gs before hval0 hW hcnd hsz0 _
  have hval : ∀ (j : Nat) t v, Tryz.f3.params[j]? = some t → args[j]? = some v → Value.okWide Tryz.prog W .any base t v := hval0
  have hW' := hW
  obtain ⟨p, q, hA0, hV, rfl, hfz, hnd⟩ := hW
  have hA : DataW.TrodAll enc Tryz.prog W 0 (fun _ => true) true Tryz.f3.params.toList args.toList ds p := hA0
  rw [Tryz.params3] at hA hval
  obtain ⟨v0, vs0, d0, ds0, p0, q0, hargs, rfl, rfl, h0, r0⟩ := trodAll_cons hA
  obtain ⟨v1, vs1, d1, ds1, p1, q1, rfl, rfl, rfl, h1, r1⟩ := trodAll_cons r0
  obtain ⟨rfl, rfl, rfl⟩ := trodAll_nil r1
  obtain rfl : args = #[v0, v1] := by cases args; simp_all
  obtain ⟨rfl, rfl⟩ := trodVars_none hV
  obtain ⟨c0, e0, f0, y0, z0, x0, m0, rfl, rfl, rfl, hy0, hz0, hx0⟩ := open_agg3 Tryz.underlying23 (by kernel_rfl) (show Tryz.prog.cellsOf 23 = 3 by kernel_rfl) (hval 0 23 v0 rfl rfl) h0
  obtain ⟨a0, g0, rfl⟩ := DataW.trod_bool (show Tryz.prog.underlying _ = some .bool from by kernel_rfl) hy0
  obtain ⟨b0, k0, rfl, w0⟩ := DataW.trod_string (show Tryz.prog.underlying _ = some .string from by kernel_rfl) hz0
  obtain ⟨bb0, kk0, rfl, ww0⟩ := DataW.trod_string (show Tryz.prog.underlying _ = some .string from by kernel_rfl) hx0
  simp only [List.cons.injEq, and_true] at g0 k0 kk0
  subst g0 k0 kk0
  obtain ⟨a1, rfl, rfl, rfl, y1⟩ := open_string Tryz.underlying9 (hval 1 9 v1 rfl rfl) h1
  clear hA0 hval0 hsz0
  refine (Go.Proofs.YtibaendebbicjaaGreat.L.qtexts_walk a0 b0 bb0 a1 y1 W).mono fun e W' ⟨he, bel⟩ => ?_
  subst he
  exact ⟨_, rfl, _, _, _, [], _, [], hW', trodAll_mk1 (shut_bool Tryz.underlying4 _), (trodAll_cons_mk (shut_agg3 (y0 := (.lit (.bool a0), [])) (y1 := (.lit (.string b0.data.toList), [])) (y2 := (.lit (.string bb0.data.toList), [])) Tryz.underlying23 (by kernel_rfl) (show Tryz.prog.cellsOf 23 = 3 by kernel_rfl) ⟨1, by simp [DataW.trod, show Tryz.checked.prog.underlying 4 = some .bool from by kernel_rfl]⟩ ⟨1, by simp [DataW.trod, show Tryz.checked.prog.underlying 9 = some .string from by kernel_rfl, w0]⟩ ⟨1, by simp [DataW.trod, show Tryz.checked.prog.underlying 9 = some .string from by kernel_rfl, ww0]⟩) (trodAll_cons_mk (shut_string Tryz.underlying9 y1) trodAll_mk0)), rfl, bel.frame _, fun h => by cases h⟩
theorem over : Rows.rationalTextsRow.holds Tryz.pinned (OpenSpec.ofChange Rows.rationalTextsSpec) :=
  OpenClaim.holds_of_wide 3 Tryz.f3 rfl rfl rfl rfl rfl rfl rfl ⟨rfl, rfl, rfl, rfl, rfl⟩ rfl rfl rfl rfl rfl (by kernel_rfl) Tryz.func3 (by kernel_rfl)
    (of_decide_eq_true (by kernel_rfl)) (by unfold Func.isWrapper; first | (rw [if_pos (by decide +kernel)]; kernel_rfl) | (rw [if_neg (by decide +kernel)]; exact ⟨rfl, rfl⟩))
    (fun os started H enc _ => lifted os started H enc)
theorem proved : Rows.RationalTextsSaid := over
#print axioms proved
end Go.Proofs.YtibaendebbicjaaGreat.rationalTexts
namespace Go.Proofs.YtibaendebbicjaaGreat
theorem rationalTexts_holds : Rows.RationalTextsSaid := rationalTexts.proved
end Go.Proofs.YtibaendebbicjaaGreat
