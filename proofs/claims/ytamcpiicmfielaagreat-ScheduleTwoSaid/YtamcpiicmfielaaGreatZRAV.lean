import Derived.Test.YtamcpiicmfielaaGreatRows
import Derived.Test.YtamcpiicmfielaaGreatZZY
import Derived.Test.YtamcpiicmfielaaGreatZHW
import Derived.WalkKit
import Derived.ProofKit
import Derived.OpenShut
import Derived.ShutString
import Derived.ChangeOld
import Derived.Below
import Derived.SizedLaws
import Derived.Lib.SmallJoins
set_option linter.unusedVariables false
set_option linter.unusedSimpArgs false
namespace Go.Proofs.YtamcpiicmfielaaGreat.scheduleTwo
open Go.ChangeShapes Go.WideShapes Go.ChangeAt Go.RowKit Go.Joins
open Go.ChangeMaps (open_string shut_string)
theorem own : ownKnob Tryz.prog.godebug = none := by kernel_rfl
set_option maxRecDepth 100000 in
theorem lifted (aE : Os) (dy : aE.Started) (H : Type) (enc : TypeId × Value → H) :
    ReturnsInHanded {} Tryz.checked aE 6 .any (Rows.scheduleTwoSpec.pre6 enc Tryz.prog Tryz.f6 Rows.scheduleTwoRow.domain false) (Rows.scheduleTwoSpec.post enc Tryz.prog Tryz.f6 false true false false) := by
  refine returnsInHanded_of_change_sized (C := Tryz.checked) own dy (by kernel_rfl) Tryz.func6
    (ChangeSpec.witness6 (enc := enc) (C := Tryz.checked) false ⟨#[], #[.agg #[.slice none 0 0, .slice none 0 0], .agg #[.slice none 0 0, .slice none 0 0]], []⟩ 8 (by kernel_rfl) (by kernel_rfl) (by kernel_rfl) (by kernel_rfl)) ?_
  intro W a7 args ds et ed ab Z ev b2 _
  have I : ∀ (j : Nat) t v, Tryz.f6.params[j]? = some t → args[j]? = some v → Value.okWide Tryz.prog W .any a7 t v := ab
  have b0 := Z
  obtain ⟨p, q, U, bD, rfl, ez, eL⟩ := Z
  have O : DataW.TrodAll enc Tryz.prog W 0 (fun _ => true) true Tryz.f6.params.toList args.toList ds p := U
  rw [Tryz.params6] at O I
  obtain ⟨a1, e2, en, eo, eN, eR, eu, rfl, rfl, J, c7⟩ := trodAll_cons O
  obtain ⟨a6, e3, d1, ep, p1, q1, rfl, rfl, rfl, M, dx⟩ := trodAll_cons c7
  obtain ⟨rfl, rfl, rfl⟩ := trodAll_nil dx
  obtain rfl : args = #[a1, a6] := by cases args; simp_all
  obtain ⟨rfl, rfl⟩ := trodVars_none bD
  have b3 := J
  obtain ⟨eg, rfl, _⟩ := okWide_struct Tryz.underlying25 (I 0 25 a1 rfl rfl)
  obtain ⟨n0, ea, m0, c5, l0, ct, b5, c0, g0⟩ := L.Kz J
  have b4 := M
  obtain ⟨eh, rfl, _⟩ := okWide_struct Tryz.underlying25 (I 1 25 a6 rfl rfl)
  obtain ⟨ch, eb, b7, c6, l1, c3, b6, c4, bx⟩ := L.Kz M
  clear U ab b2
  refine (Go.Proofs.YtamcpiicmfielaaGreat.L.ag7 n0 ea m0 c5 l0 ct b5 c0 ch eb b7 c6 l1 c3 b6 c4 W _ g0 _ bx).mono fun e ec ⟨b1, G⟩ => ?_
  subst b1
  exact ⟨_, rfl, _, _, _, [], _, [], b0, trodAll_mk1 (shut_bool Tryz.underlying4 _), (trodAll_cons_mk (L.KB (by kernel_rfl) (of_decide_eq_true (by kernel_rfl)) b3 G) (trodAll_cons_mk (L.KB (by kernel_rfl) (of_decide_eq_true (by kernel_rfl)) b4 G) trodAll_mk0)), rfl, G.frame _, fun h => by cases h⟩
theorem acb : Rows.scheduleTwoRow.holds Tryz.pinned (OpenSpec.ofChange Rows.scheduleTwoSpec) :=
  OpenClaim.holds_of_wide 6 Tryz.f6 rfl rfl rfl rfl rfl rfl rfl ⟨rfl, rfl, rfl, rfl, rfl⟩ rfl rfl rfl rfl rfl (by kernel_rfl) Tryz.func6 (by kernel_rfl)
    (of_decide_eq_true (by kernel_rfl)) (by unfold Func.isWrapper; first | (rw [if_pos (by decide +kernel)]; kernel_rfl) | (rw [if_neg (by decide +kernel)]; exact ⟨rfl, rfl⟩))
    (fun G I H enc _ => lifted G I H enc)
theorem proved : Rows.ScheduleTwoSaid := acb
#print axioms proved
end Go.Proofs.YtamcpiicmfielaaGreat.scheduleTwo
namespace Go.Proofs.YtamcpiicmfielaaGreat
theorem scheduleTwo_holds : Rows.ScheduleTwoSaid := scheduleTwo.proved
end Go.Proofs.YtamcpiicmfielaaGreat
