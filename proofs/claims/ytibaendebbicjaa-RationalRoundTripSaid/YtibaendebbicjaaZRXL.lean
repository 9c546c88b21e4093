import Derived.Test.YtibaendebbicjaaRows
import Derived.Test.YtibaendebbicjaaZYB
import Derived.WalkKit
import Derived.ProofKit
import Derived.OpenShut
import Derived.ShutString
import Derived.ChangeOld
import Derived.Below
import Derived.SizedLaws
import Derived.Lib.SmallJoins
set_option linter.unusedVariables false
set_option linter.unusedSimpArgs false
namespace Go.Proofs.Ytibaendebbicjaa.rationalRoundTrip
open Go.ChangeShapes Go.WideShapes Go.ChangeAt Go.RowKit Go.Joins
open Go.ChangeMaps (open_string shut_string)
theorem own : ownKnob Try.prog.godebug = none := by kernel_rfl
set_option maxRecDepth 100000 in
theorem lifted (os : Os) (started : os.Started) (H : Type) (enc : TypeId × Value → H) :
    ReturnsInHanded {} Try.checked os 3 .any (Rows.rationalRoundTripSpec.pre6 enc Try.prog Try.f3 Rows.rationalRoundTripRow.domain false) (Rows.rationalRoundTripSpec.post enc Try.prog Try.f3 false true false false) := by
  refine returnsInHanded_of_change_sized (C := Try.checked) own started (by kernel_rfl) Try.func3
    (ChangeSpec.witness6 (enc := enc) (C := Try.checked) false ⟨#[], #[.agg #[.bool false, .string ByteArray.empty, .string ByteArray.empty], .string ByteArray.empty], []⟩ 8 (by kernel_rfl) (by kernel_rfl) (by kernel_rfl) (by kernel_rfl)) ?_
  intro W base args ds gs before hval0 hW hcnd hsz0 _
  have hval : ∀ (j : Nat) t v, Try.f3.params[j]? = some t → args[j]? = some v → Value.okWide Try.prog W .any base t v := hval0
  have hW' := hW
  obtain ⟨p, q, hA0, hV, rfl, hfz, hnd⟩ := hW
  have hA : DataW.TrodAll enc Try.prog W 0 (fun _ => true) true Try.f3.params.toList args.toList ds p := hA0
  rw [Try.params3] at hA hval
  obtain ⟨v0, vs0, d0, ds0, p0, q0, hargs, rfl, rfl, h0, r0⟩ := trodAll_cons hA
  obtain ⟨v1, vs1, d1, ds1, p1, q1, rfl, rfl, rfl, h1, r1⟩ := trodAll_cons r0
  obtain ⟨rfl, rfl, rfl⟩ := trodAll_nil r1
  obtain rfl : args = #[v0, v1] := by cases args; simp_all
  obtain ⟨rfl, rfl⟩ := trodVars_none hV
  obtain ⟨c0, e0, f0, y0, z0, x0, m0, rfl, rfl, rfl, hy0, hz0, hx0⟩ := open_agg3 Try.underlying23 (by kernel_rfl) (show Try.prog.cellsOf 23 = 3 by kernel_rfl) (hval 0 23 v0 rfl rfl) h0
  obtain ⟨a0, g0, rfl⟩ := DataW.trod_bool (show Try.prog.underlying _ = some .bool from by kernel_rfl) hy0
  obtain ⟨b0, k0, rfl, w0⟩ := DataW.trod_string (show Try.prog.underlying _ = some .string from by kernel_rfl) hz0
  obtain ⟨bb0, kk0, rfl, ww0⟩ := DataW.trod_string (show Try.prog.underlying _ = some .string from by kernel_rfl) hx0
  simp only [List.cons.injEq, and_true] at g0 k0 kk0
  subst g0 k0 kk0
  obtain ⟨a1, rfl, rfl, rfl, y1⟩ := open_string Try.underlying9 (hval 1 9 v1 rfl rfl) h1
  clear hA0 hval0 hsz0
  refine (Go.Proofs.Ytibaendebbicjaa.L.trip_walk a0 b0 bb0 a1 y1 W).mono fun e W' ⟨he, bel⟩ => ?_
  subst he
  exact ⟨_, rfl, _, _, _, [], _, [], hW', trodAll_mk1 (shut_bool Try.underlying4 _), (trodAll_cons_mk (shut_agg3 (y0 := (.lit (.bool a0), [])) (y1 := (.lit (.string b0.data.toList), [])) (y2 := (.lit (.string bb0.data.toList), [])) Try.underlying23 (by kernel_rfl) (show Try.prog.cellsOf 23 = 3 by kernel_rfl) ⟨1, by simp [DataW.trod, show Try.checked.prog.underlying 4 = some .bool from by kernel_rfl]⟩ ⟨1, by simp [DataW.trod, show Try.checked.prog.underlying 9 = some .string from by kernel_rfl, w0]⟩ ⟨1, by simp [DataW.trod, show Try.checked.prog.underlying 9 = some .string from by kernel_rfl, ww0]⟩) (trodAll_cons_mk (shut_string Try.underlying9 y1) trodAll_mk0)), rfl, bel.frame _, fun h => by cases h⟩
theorem over : Rows.rationalRoundTripRow.holds Try.pinned (OpenSpec.ofChange Rows.rationalRoundTripSpec) :=
  OpenClaim.holds_of_wide 3 Try.f3 rfl rfl rfl rfl rfl rfl rfl ⟨rfl, rfl, rfl, rfl, rfl⟩ rfl rfl rfl rfl rfl (by kernel_rfl) Try.func3 (by kernel_rfl)
    (of_decide_eq_true (by kernel_rfl)) (by unfold Func.isWrapper; first | (rw [if_pos (by decide +kernel)]; kernel_rfl) | (rw [if_neg (by decide +kernel)]; exact ⟨rfl, rfl⟩))
    (fun os started H enc _ => lifted os started H enc)
theorem proved : Rows.RationalRoundTripSaid := over
#print axioms proved
end Go.Proofs.Ytibaendebbicjaa.rationalRoundTrip
namespace Go.Proofs.Ytibaendebbicjaa
theorem rationalRoundTrip_holds : Rows.RationalRoundTripSaid := rationalRoundTrip.proved
end Go.Proofs.Ytibaendebbicjaa
