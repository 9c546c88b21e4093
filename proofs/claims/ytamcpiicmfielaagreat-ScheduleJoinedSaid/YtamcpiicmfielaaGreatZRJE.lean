import Derived.Test.YtamcpiicmfielaaGreatRows
import Derived.Test.YtamcpiicmfielaaGreatZJA
import Derived.WalkKit
import Derived.ProofKit
import Derived.OpenShut
import Derived.ShutString
import Derived.ChangeOld
import Derived.Below
import Derived.SizedLaws
import Derived.Lib.SmallJoins
set_option linter.unusedVariables false
set_option linter.unusedSimpArgs false
namespace Go.Proofs.YtamcpiicmfielaaGreat.scheduleJoined
open Go.ChangeShapes Go.WideShapes Go.ChangeAt Go.RowKit Go.Joins
open Go.ChangeMaps (open_string shut_string)
theorem own : ownKnob Tryz.prog.godebug = none := by kernel_rfl
set_option maxRecDepth 100000 in
theorem lifted (os : Os) (started : os.Started) (H : Type) (enc : TypeId × Value → H) :
    ReturnsInHanded {} Tryz.checked os 4 .any (Rows.scheduleJoinedSpec.pre6 enc Tryz.prog Tryz.f4 Rows.scheduleJoinedRow.domain false) (Rows.scheduleJoinedSpec.post enc Tryz.prog Tryz.f4 false true false false) := by
  refine returnsInHanded_of_change_sized (C := Tryz.checked) own started (by kernel_rfl) Tryz.func4
    (ChangeSpec.witness6 (enc := enc) (C := Tryz.checked) false ⟨#[], #[.agg #[.slice none 0 0, .slice none 0 0], .agg #[.slice none 0 0, .slice none 0 0], .agg #[.bool false, .string ByteArray.empty, .string ByteArray.empty]], []⟩ 8 (by kernel_rfl) (by kernel_rfl) (by kernel_rfl) (by kernel_rfl)) ?_
  intro W base args ds gs before hval0 hW hcnd hsz0 _
  have hval : ∀ (j : Nat) t v, Tryz.f4.params[j]? = some t → args[j]? = some v → Value.okWide Tryz.prog W .any base t v := hval0
  have hW' := hW
  obtain ⟨p, q, hA0, hV, rfl, hfz, hnd⟩ := hW
  have hA : DataW.TrodAll enc Tryz.prog W 0 (fun _ => true) true Tryz.f4.params.toList args.toList ds p := hA0
  rw [Tryz.params4] at hA hval
  obtain ⟨v0, vs0, d0, ds0, p0, q0, hargs, rfl, rfl, h0, r0⟩ := trodAll_cons hA
  obtain ⟨v1, vs1, d1, ds1, p1, q1, rfl, rfl, rfl, h1, r1⟩ := trodAll_cons r0
  obtain ⟨v2, vs2, d2, ds2, p2, q2, rfl, rfl, rfl, h2, r2⟩ := trodAll_cons r1
  obtain ⟨rfl, rfl, rfl⟩ := trodAll_nil r2
  obtain rfl : args = #[v0, v1, v2] := by cases args; simp_all
  obtain ⟨rfl, rfl⟩ := trodVars_none hV
  have kept0 := h0
  obtain ⟨cs0, rfl, _⟩ := okWide_struct Tryz.underlying25 (hval 0 25 v0 rfl rfl)
  obtain ⟨n0, ts0, m0, ps0, l0, o0, l02, o02, g0⟩ := L.arg_trj h0
  have kept1 := h1
  obtain ⟨cs1, rfl, _⟩ := okWide_struct Tryz.underlying25 (hval 1 25 v1 rfl rfl)
  obtain ⟨n1, ts1, m1, ps1, l1, o1, l12, o12, g1⟩ := L.arg_trj h1
  have kept2 := h2
  obtain ⟨c2, e2, f2, y2, z2, x2, m2, rfl, rfl, rfl, hy2, hz2, hx2⟩ := open_agg3 Tryz.underlying27 (by kernel_rfl) (show Tryz.prog.cellsOf 27 = 3 by kernel_rfl) (hval 2 27 v2 rfl rfl) h2
  obtain ⟨a2, g2, rfl⟩ := DataW.trod_bool (show Tryz.prog.underlying _ = some .bool from by kernel_rfl) hy2
  obtain ⟨b2, k2, rfl, w2⟩ := DataW.trod_string (show Tryz.prog.underlying _ = some .string from by kernel_rfl) hz2
  obtain ⟨bb2, kk2, rfl, ww2⟩ := DataW.trod_string (show Tryz.prog.underlying _ = some .string from by kernel_rfl) hx2
  simp only [List.cons.injEq, and_true] at g2 k2 kk2
  subst g2 k2 kk2
  clear hA0 hval0 hsz0
  refine (Go.Proofs.YtamcpiicmfielaaGreat.L.joined_walk n0 ts0 m0 ps0 l0 o0 l02 o02 n1 ts1 m1 ps1 l1 o1 l12 o12 a2 b2 bb2 W _ g0 _ g1).mono fun e W' ⟨he, bel⟩ => ?_
  subst he
  exact ⟨_, rfl, _, _, _, [], _, [], hW', trodAll_mk1 (shut_bool Tryz.underlying4 _), (trodAll_cons_mk (L.back_arg (by kernel_rfl) (of_decide_eq_true (by kernel_rfl)) kept0 bel) (trodAll_cons_mk (L.back_arg (by kernel_rfl) (of_decide_eq_true (by kernel_rfl)) kept1 bel) (trodAll_cons_mk (L.back_arg (by kernel_rfl) (of_decide_eq_true (by kernel_rfl)) kept2 bel) trodAll_mk0))), rfl, bel.frame _, fun h => by cases h⟩
theorem over : Rows.scheduleJoinedRow.holds Tryz.pinned (OpenSpec.ofChange Rows.scheduleJoinedSpec) :=
  OpenClaim.holds_of_wide 4 Tryz.f4 rfl rfl rfl rfl rfl rfl rfl ⟨rfl, rfl, rfl, rfl, rfl⟩ rfl rfl rfl rfl rfl (by kernel_rfl) Tryz.func4 (by kernel_rfl)
    (of_decide_eq_true (by kernel_rfl)) (by unfold Func.isWrapper; first | (rw [if_pos (by decide +kernel)]; kernel_rfl) | (rw [if_neg (by decide +kernel)]; exact ⟨rfl, rfl⟩))
    (fun os started H enc _ => lifted os started H enc)
theorem proved : Rows.ScheduleJoinedSaid := over
#print axioms proved
end Go.Proofs.YtamcpiicmfielaaGreat.scheduleJoined
namespace Go.Proofs.YtamcpiicmfielaaGreat
theorem scheduleJoined_holds : Rows.ScheduleJoinedSaid := scheduleJoined.proved
end Go.Proofs.YtamcpiicmfielaaGreat
