import Derived.Test.YtdnmkehncpfnnaaRows
import Derived.Test.YtdnmkehncpfnnaaZI1
import Derived.Test.YtdnmkehncpfnnaaZHW
import Derived.WalkKit
import Derived.ProofKit
import Derived.OpenShut
import Derived.ShutString
import Derived.ChangeOld
import Derived.Below
import Derived.SizedLaws
import Derived.Lib.SmallJoins
set_option linter.unusedVariables false
set_option linter.unusedSimpArgs false
namespace Go.Proofs.Ytdnmkehncpfnnaa.scheduleBounded
open Go.ChangeShapes Go.WideShapes Go.ChangeAt Go.RowKit Go.Joins
open Go.ChangeMaps (open_string shut_string)
theorem own : ownKnob Try.prog.godebug = none := by kernel_rfl
set_option maxRecDepth 100000 in
theorem lifted (os : Os) (started : os.Started) (H : Type) (enc : TypeId × Value → H) :
    ReturnsInHanded {} Try.checked os 3 .any (Rows.scheduleBoundedSpec.pre6 enc Try.prog Try.f3 Rows.scheduleBoundedRow.domain false) (Rows.scheduleBoundedSpec.post enc Try.prog Try.f3 false true false false) := by
  refine returnsInHanded_of_change_sized (C := Try.checked) own started (by kernel_rfl) Try.func3
    (ChangeSpec.witness6 (enc := enc) (C := Try.checked) false ⟨#[], #[.slice none 0 0, .agg #[.bool false, .string ByteArray.empty, .string ByteArray.empty], .int .i64 0], []⟩ 8 (by kernel_rfl) (by kernel_rfl) (by kernel_rfl) (by kernel_rfl)) ?_
  intro W base args ds gs before hval0 hW hcnd hsz0 _
  have hval : ∀ (j : Nat) t v, Try.f3.params[j]? = some t → args[j]? = some v → Value.okWide Try.prog W .any base t v := hval0
  have hW' := hW
  obtain ⟨p, q, hA0, hV, rfl, hfz, hnd⟩ := hW
  have hA : DataW.TrodAll enc Try.prog W 0 (fun _ => true) true Try.f3.params.toList args.toList ds p := hA0
  rw [Try.params3] at hA hval
  obtain ⟨v0, vs0, d0, ds0, p0, q0, hargs, rfl, rfl, h0, r0⟩ := trodAll_cons hA
  obtain ⟨v1, vs1, d1, ds1, p1, q1, rfl, rfl, rfl, h1, r1⟩ := trodAll_cons r0
  obtain ⟨v2, vs2, d2, ds2, p2, q2, rfl, rfl, rfl, h2, r2⟩ := trodAll_cons r1
  obtain ⟨rfl, rfl, rfl⟩ := trodAll_nil r2
  obtain rfl : args = #[v0, v1, v2] := by cases args; simp_all
  obtain ⟨rfl, rfl⟩ := trodVars_none hV
  have kept0 := h0
  obtain ⟨A0, len0, cap0, rfl⟩ := okWide_slice Try.underlying22 (hval 0 22 v0 rfl rfl)
  obtain ⟨n0, ps0, l0, o0, g0⟩ := L.arg_pts (fun _ h => by cases h) h0
  have kept1 := h1
  obtain ⟨c1, e1, f1, y1, z1, x1, m1, rfl, rfl, rfl, hy1, hz1, hx1⟩ := open_agg3 Try.underlying24 (by kernel_rfl) (show Try.prog.cellsOf 24 = 3 by kernel_rfl) (hval 1 24 v1 rfl rfl) h1
  obtain ⟨a1, g1, rfl⟩ := DataW.trod_bool (show Try.prog.underlying _ = some .bool from by kernel_rfl) hy1
  obtain ⟨b1, k1, rfl, w1⟩ := DataW.trod_string (show Try.prog.underlying _ = some .string from by kernel_rfl) hz1
  obtain ⟨bb1, kk1, rfl, ww1⟩ := DataW.trod_string (show Try.prog.underlying _ = some .string from by kernel_rfl) hx1
  simp only [List.cons.injEq, and_true] at g1 k1 kk1
  subst g1 k1 kk1
  have kept2 := h2
  obtain ⟨a2, rfl, rfl, rfl, w2⟩ := open_int Try.underlying3 (hval 2 3 v2 rfl rfl) h2
  clear hA0 hval0 hsz0
  refine (Go.Proofs.Ytdnmkehncpfnnaa.L.bounded_walk n0 ps0 l0 o0 a1 b1 bb1 a2 w2 W _ g0).mono fun e W' ⟨he, bel⟩ => ?_
  subst he
  exact ⟨_, rfl, _, _, _, [], _, [], hW', trodAll_mk1 (shut_bool Try.underlying4 _), (trodAll_cons_mk (L.back_arg (by kernel_rfl) (of_decide_eq_true (by kernel_rfl)) kept0 bel) (trodAll_cons_mk (L.back_arg (by kernel_rfl) (of_decide_eq_true (by kernel_rfl)) kept1 bel) (trodAll_cons_mk (L.back_arg (by kernel_rfl) (of_decide_eq_true (by kernel_rfl)) kept2 bel) trodAll_mk0))), rfl, bel.frame _, fun h => by cases h⟩
theorem over : Rows.scheduleBoundedRow.holds Try.pinned (OpenSpec.ofChange Rows.scheduleBoundedSpec) :=
  OpenClaim.holds_of_wide 3 Try.f3 rfl rfl rfl rfl rfl rfl rfl ⟨rfl, rfl, rfl, rfl, rfl⟩ rfl rfl rfl rfl rfl (by kernel_rfl) Try.func3 (by kernel_rfl)
    (of_decide_eq_true (by kernel_rfl)) (by unfold Func.isWrapper; first | (rw [if_pos (by decide +kernel)]; kernel_rfl) | (rw [if_neg (by decide +kernel)]; exact ⟨rfl, rfl⟩))
    (fun os started H enc _ => lifted os started H enc)
theorem proved : Rows.ScheduleBoundedSaid := over
#print axioms proved
end Go.Proofs.Ytdnmkehncpfnnaa.scheduleBounded
namespace Go.Proofs.Ytdnmkehncpfnnaa
theorem scheduleBounded_holds : Rows.ScheduleBoundedSaid := scheduleBounded.proved
end Go.Proofs.Ytdnmkehncpfnnaa
