import Derived.Test.YtamcpiicmfielaaGreatRows
import Derived.Test.YtamcpiicmfielaaGreatZJA
import Derived.WalkKit
import Derived.ProofKit
import Derived.OpenShut
import Derived.ShutString
import Derived.ChangeOld
import Derived.Below
import Derived.SizedLaws
import Derived.Lib.SmallJoins
set_option linter.unusedVariables false
set_option linter.unusedSimpArgs false
namespace Go.Proofs.YtamcpiicmfielaaGreat.scheduleReads
open Go.ChangeShapes Go.WideShapes Go.ChangeAt Go.RowKit Go.Joins
open Go.ChangeMaps (open_string shut_string)
theorem own : ownKnob Tryz.prog.godebug = none := by kernel_rfl
set_option maxRecDepth 100000 in
theorem lifted (a0 : Os) (c1 : a0.Started) (H : Type) (enc : TypeId × Value → H) :
    ReturnsInHanded {} Tryz.checked a0 3 .any (Rows.scheduleReadsSpec.pre6 enc Tryz.prog Tryz.f3 Rows.scheduleReadsRow.domain false) (Rows.scheduleReadsSpec.post enc Tryz.prog Tryz.f3 false true false false) := by
  refine returnsInHanded_of_change_sized (C := Tryz.checked) own c1 (by kernel_rfl) Tryz.func3
    (ChangeSpec.witness6 (enc := enc) (C := Tryz.checked) false ⟨#[], #[.agg #[.slice none 0 0, .slice none 0 0], .agg #[.bool false, .string ByteArray.empty, .string ByteArray.empty]], []⟩ 8 (by kernel_rfl) (by kernel_rfl) (by kernel_rfl) (by kernel_rfl)) ?_
  intro W a5 args ds ed c4 U S en b0 _
  have G : ∀ (Z : Nat) t v, Tryz.f3.params[Z]? = some t → args[Z]? = some v → Value.okWide Tryz.prog W .any a5 t v := U
  have bx := S
  obtain ⟨p, q, O, a7, rfl, eo, ep⟩ := S
  have N : DataW.TrodAll enc Tryz.prog W 0 (fun _ => true) true Tryz.f3.params.toList args.toList ds p := O
  rw [Tryz.params3] at N G
  obtain ⟨a1, ez, c7, dx, eu, ev, eh, rfl, rfl, J, ct⟩ := trodAll_cons N
  obtain ⟨a2, eN, c8, dy, p1, ey, rfl, rfl, rfl, M, c0⟩ := trodAll_cons ct
  obtain ⟨rfl, rfl, rfl⟩ := trodAll_nil c0
  obtain rfl : args = #[a1, a2] := by cases args; simp_all
  obtain ⟨rfl, rfl⟩ := trodVars_none a7
  have b4 := J
  obtain ⟨c6, rfl, _⟩ := okWide_struct Tryz.underlying25 (G 0 25 a1 rfl rfl)
  obtain ⟨n0, c2, m0, ch, l0, b7, b6, b8, g0⟩ := L.QY J
  have b5 := M
  obtain ⟨c5, eb, ec, e3, z1, e2, et, rfl, rfl, rfl, b2, b3, b1⟩ := open_agg3 Tryz.underlying27 (by kernel_rfl) (show Tryz.prog.cellsOf 27 = 3 by kernel_rfl) (G 1 27 a2 rfl rfl) M
  obtain ⟨a3, I, rfl⟩ := DataW.trod_bool (show Tryz.prog.underlying _ = some .bool from by kernel_rfl) b2
  obtain ⟨a4, k1, rfl, e0⟩ := DataW.trod_string (show Tryz.prog.underlying _ = some .string from by kernel_rfl) b3
  obtain ⟨a6, ab, rfl, e1⟩ := DataW.trod_string (show Tryz.prog.underlying _ = some .string from by kernel_rfl) b1
  simp only [List.cons.injEq, and_true] at I k1 ab
  subst I k1 ab
  clear O U b0
  refine (Go.Proofs.YtamcpiicmfielaaGreat.L.aag n0 c2 m0 ch l0 b7 b6 b8 a3 a4 a6 W _ g0).mono fun e c3 ⟨bD, j⟩ => ?_
  subst bD
  exact ⟨_, rfl, _, _, _, [], _, [], bx, trodAll_mk1 (shut_bool Tryz.underlying4 _), (trodAll_cons_mk (L.Jr (by kernel_rfl) (of_decide_eq_true (by kernel_rfl)) b4 j) (trodAll_cons_mk (L.Jr (by kernel_rfl) (of_decide_eq_true (by kernel_rfl)) b5 j) trodAll_mk0)), rfl, j.frame _, fun h => by cases h⟩
theorem Zc : Rows.scheduleReadsRow.holds Tryz.pinned (OpenSpec.ofChange Rows.scheduleReadsSpec) :=
  OpenClaim.holds_of_wide 3 Tryz.f3 rfl rfl rfl rfl rfl rfl rfl ⟨rfl, rfl, rfl, rfl, rfl⟩ rfl rfl rfl rfl rfl (by kernel_rfl) Tryz.func3 (by kernel_rfl)
    (of_decide_eq_true (by kernel_rfl)) (by unfold Func.isWrapper; first | (rw [if_pos (by decide +kernel)]; kernel_rfl) | (rw [if_neg (by decide +kernel)]; exact ⟨rfl, rfl⟩))
    (fun j G H enc _ => lifted j G H enc)
theorem proved : Rows.ScheduleReadsSaid := Zc
#print axioms proved
end Go.Proofs.YtamcpiicmfielaaGreat.scheduleReads
namespace Go.Proofs.YtamcpiicmfielaaGreat
theorem scheduleReads_holds : Rows.ScheduleReadsSaid := scheduleReads.proved
end Go.Proofs.YtamcpiicmfielaaGreat
