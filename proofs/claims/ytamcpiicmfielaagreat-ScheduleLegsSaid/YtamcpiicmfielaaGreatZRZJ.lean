import Derived.Test.YtamcpiicmfielaaGreatRows
import Derived.Test.YtamcpiicmfielaaGreatZZY
import Derived.Test.YtamcpiicmfielaaGreatZHW
import Derived.WalkKit
import Derived.ProofKit
import Derived.OpenShut
import Derived.ShutString
import Derived.ChangeOld
import Derived.Below
import Derived.SizedLaws
import Derived.Lib.SmallJoins
set_option linter.unusedVariables false
set_option linter.unusedSimpArgs false
namespace Go.Proofs.YtamcpiicmfielaaGreat.scheduleLegs
open Go.ChangeShapes Go.WideShapes Go.ChangeAt Go.RowKit Go.Joins
open Go.ChangeMaps (open_string shut_string)
theorem own : ownKnob Tryz.prog.godebug = none := by kernel_rfl
set_option maxRecDepth 100000 in
theorem lifted (bD : Os) (e2 : bD.Started) (H : Type) (enc : TypeId × Value → H) :
    ReturnsInHanded {} Tryz.checked bD 5 .any (Rows.scheduleLegsSpec.pre6 enc Tryz.prog Tryz.f5 Rows.scheduleLegsRow.domain false) (Rows.scheduleLegsSpec.post enc Tryz.prog Tryz.f5 false true false false) := by
  refine returnsInHanded_of_change_sized (C := Tryz.checked) own e2 (by kernel_rfl) Tryz.func5
    (ChangeSpec.witness6 (enc := enc) (C := Tryz.checked) false ⟨#[], #[.agg #[.slice none 0 0, .slice none 0 0], .agg #[.slice none 0 0, .slice none 0 0], .int .u8 0, .agg #[.bool false, .string ByteArray.empty, .string ByteArray.empty]], []⟩ 8 (by kernel_rfl) (by kernel_rfl) (by kernel_rfl) (by kernel_rfl)) ?_
  intro W b6 args ds hh e6 a6 a1 hl c4 _
  have I : ∀ (j : Nat) t v, Tryz.f5.params[j]? = some t → args[j]? = some v → Value.okWide Tryz.prog W .any b6 t v := a6
  have c0 := a1
  obtain ⟨p, q, aE, ct, rfl, hn, ho⟩ := a1
  have ab : DataW.TrodAll enc Tryz.prog W 0 (fun _ => true) true Tryz.f5.params.toList args.toList ds p := aE
  rw [Tryz.params5] at ab I
  obtain ⟨b0, hv, fh, gf, hr, hs, hj, rfl, rfl, M, eu⟩ := trodAll_cons ab
  obtain ⟨b1, hx, d1, gn, p1, q1, rfl, rfl, rfl, O, ev⟩ := trodAll_cons eu
  obtain ⟨v2, hy, fs, hc, p2, q2, rfl, rfl, rfl, U, ez⟩ := trodAll_cons ev
  obtain ⟨b2, hz, fv, hd, p3, ht, rfl, rfl, rfl, Z, eN⟩ := trodAll_cons ez
  obtain ⟨rfl, rfl, rfl⟩ := trodAll_nil eN
  obtain rfl : args = #[b0, b1, v2, b2] := by cases args; simp_all
  obtain ⟨rfl, rfl⟩ := trodVars_none ct
  have dx := M
  obtain ⟨fa, rfl, _⟩ := okWide_struct Tryz.underlying25 (I 0 25 b0 rfl rfl)
  obtain ⟨n0, e3, m0, ep, l0, ek, ec, en, ch⟩ := L.I0 M
  have dy := O
  obtain ⟨fc, rfl, _⟩ := okWide_struct Tryz.underlying25 (I 1 25 b1 rfl rfl)
  obtain ⟨eh, e4, eg, et, l1, o1, ed, eo, g1⟩ := L.I0 O
  have ea := U
  obtain ⟨b3, rfl, rfl, rfl, w2⟩ := open_int Tryz.underlying5 (I 2 5 v2 rfl rfl) U
  have eb := Z
  obtain ⟨e7, hf, hg, hD, z3, hB, hq, rfl, rfl, rfl, c6, c7, c5⟩ := open_agg3 Tryz.underlying27 (by kernel_rfl) (show Tryz.prog.cellsOf 27 = 3 by kernel_rfl) (I 3 27 b2 rfl rfl) Z
  obtain ⟨b4, J, rfl⟩ := DataW.trod_bool (show Tryz.prog.underlying _ = some .bool from by kernel_rfl) c6
  obtain ⟨b5, a7, rfl, w3⟩ := DataW.trod_string (show Tryz.prog.underlying _ = some .string from by kernel_rfl) c7
  obtain ⟨b7, bx, rfl, hA⟩ := DataW.trod_string (show Tryz.prog.underlying _ = some .string from by kernel_rfl) c5
  simp only [List.cons.injEq, and_true] at J a7 bx
  subst J a7 bx
  clear aE a6 c4
  refine (Go.Proofs.YtamcpiicmfielaaGreat.L.XS n0 e3 m0 ep l0 ek ec en eh e4 eg et l1 o1 ed eo b3 w2 b4 b5 b7 W _ ch _ g1).mono fun e e5 ⟨c3, G⟩ => ?_
  subst c3
  exact ⟨_, rfl, _, _, _, [], _, [], c0, trodAll_mk1 (shut_bool Tryz.underlying4 _), (trodAll_cons_mk (L.wN (by kernel_rfl) (of_decide_eq_true (by kernel_rfl)) dx G) (trodAll_cons_mk (L.wN (by kernel_rfl) (of_decide_eq_true (by kernel_rfl)) dy G) (trodAll_cons_mk (L.wN (by kernel_rfl) (of_decide_eq_true (by kernel_rfl)) ea G) (trodAll_cons_mk (L.wN (by kernel_rfl) (of_decide_eq_true (by kernel_rfl)) eb G) trodAll_mk0)))), rfl, G.frame _, fun h => by cases h⟩
theorem ZE : Rows.scheduleLegsRow.holds Tryz.pinned (OpenSpec.ofChange Rows.scheduleLegsSpec) :=
  OpenClaim.holds_of_wide 5 Tryz.f5 rfl rfl rfl rfl rfl rfl rfl ⟨rfl, rfl, rfl, rfl, rfl⟩ rfl rfl rfl rfl rfl (by kernel_rfl) Tryz.func5 (by kernel_rfl)
    (of_decide_eq_true (by kernel_rfl)) (by unfold Func.isWrapper; first | (rw [if_pos (by decide +kernel)]; kernel_rfl) | (rw [if_neg (by decide +kernel)]; exact ⟨rfl, rfl⟩))
    (fun G I H enc _ => lifted G I H enc)
theorem proved : Rows.ScheduleLegsSaid := ZE
#print axioms proved
end Go.Proofs.YtamcpiicmfielaaGreat.scheduleLegs
namespace Go.Proofs.YtamcpiicmfielaaGreat
theorem scheduleLegs_holds : Rows.ScheduleLegsSaid := scheduleLegs.proved
end Go.Proofs.YtamcpiicmfielaaGreat
