import Derived.Test.YtndpfegbbpoopaaZA1
import Derived.Test.YtndpfegbbpoopaaZA2
import Derived.Test.YtndpfegbbpoopaaZL
set_option linter.unusedVariables false
set_option linter.unusedSimpArgs false
namespace Go.Proofs.Ytndpfegbbpoopaa.L
open Go Go.V Go.RowKit Go.Proofs.Ytndpfegbbpoopaa.Sp
open Go.Proofs (Try.prog)
noncomputable section
def eqS (s : ByteArray) (l : List UInt8) : Bool := s.data.toList == l
theorem eqS_out {s : ByteArray} {l : List UInt8} (h : eqS s l = true) : s = ⟨⟨l⟩⟩ := by
  unfold eqS at h
  rw [beq_iff_eq] at h
  exact bytes_ext h
def bigOf (b : Bool) (l : List UInt8) : Option (Bool × AV) := some (true, big b l)
def aOf (args : List AV) : Option (Bool × AV) := match args with
  | [.val (.int .i64 z)] => bif decide (z = 4294967296) then bigOf false [1, 0, 0, 0, 0] else bif decide (z = -7) then bigOf true [7] else bif decide (z = 2) then bigOf false [2] else bif decide (z = 7) then bigOf false [7] else bif decide (z = -2) then bigOf true [2]
    else bif decide (z = 10) then bigOf false [10] else bif decide (z = -4) then bigOf true [4] else bif decide (z = 1) then bigOf false [1] else bif decide (z = -1) then bigOf true [1] else bif decide (z = 3) then bigOf false [3] else none
  | _ => none
theorem of_big (z : Int) (l : List UInt8) (h0 : -9223372036854775808 ≤ z ∧ z ≤ 9223372036854775807) (b : Bool) (hb : (enc z).1 = b) (hv : vB l = z.natAbs) (hl : Lead l) {r : AV} (h : bigOf b l = some (true, r)) : tOf sg0 [.val (.int .i64 z)] = some (true, r) := by
  cases h
  unfold tOf
  have e : sg0.int z = big b l := by
    have := magOf_of_lead ⟨⟨l⟩⟩ hl
    have hv2 : vS ⟨⟨l⟩⟩ = z.natAbs := hv
    rw [hv2] at this
    show AV.agg [.val (.bool (enc z).1), .val (.string (magOf z.natAbs))] = _
    rw [this, hb]
    rfl
  refine congrArg some (Prod.ext ?_ e)
  show (decide _ && decide _) = true
  rw [decide_eq_true h0.1, decide_eq_true h0.2]
  rfl
theorem eAOf : Entry Try.prog 15 aOf := entry_less eOf fun args r h => by
  unfold aOf at h
  split at h
  · rename_i z
    simp only [Bool.cond_eq_ite, decide_eq_true_eq] at h
    repeat' split at h
    all_goals first
      | cases h; done
      | (rename_i hz; subst hz; exact of_big _ _ (by omega) _ rfl (by decide) (by unfold Lead; decide) h)
  · cases h
def aMul (args : List AV) : Option (Bool × AV) := match args with
  | [.agg [.val (.bool b), .val (.string s)], .agg [.val (.bool c), .val (.string t)]] => some (!b && eqS s [1, 0, 0, 0, 0] && !c && eqS t [1, 0, 0, 0, 0], big false [1, 0, 0, 0, 0, 0, 0, 0, 0])
  | _ => none
theorem eAMul : Entry Try.prog 14 aMul := by
  refine entry_of (E := E00) (u := 20) (d := 20) (meets_none _) loops_none mixed (by kernel_rfl) (fun args r h => ?_)
  unfold aMul at h
  split at h
  · simp only [Option.some.injEq, Prod.mk.injEq, Bool.and_eq_true, Bool.not_eq_true'] at h
    obtain ⟨⟨⟨⟨rfl, h2⟩, rfl⟩, h4⟩, rfl⟩ := h
    rw [eqS_out h2, eqS_out h4]
    exact aw_mul
  · cases h
def aDiv (args : List AV) : Option (Bool × AV) := match args with
  | [.agg [.val (.bool b), .val (.string s)], .agg [.val (.bool c), .val (.string t)]] => bif b then some (b && eqS s [7] && !c && eqS t [2], .tup [big true [4], big false [1], .val (.int .i64 0)]) else some (!b && eqS s [7] && c && eqS t [2], .tup [big true [4], big true [1], .val (.int .i64 0)])
  | _ => none
theorem eADiv : Entry Try.prog 17 aDiv := by
  refine entry_of (E := E00) (u := 20) (d := 20) (meets_none _) loops_none mixed (by kernel_rfl) (fun args r h => ?_)
  unfold aDiv at h
  split at h
  · rename_i b s c t
    cases b
    · simp only [cond_false, Option.some.injEq, Prod.mk.injEq, Bool.and_eq_true, Bool.not_eq_true'] at h
      obtain ⟨⟨⟨⟨_, h2⟩, rfl⟩, h4⟩, rfl⟩ := h
      rw [eqS_out h2, eqS_out h4]
      exact aw_div2
    · simp only [cond_true, Option.some.injEq, Prod.mk.injEq, Bool.and_eq_true, Bool.not_eq_true'] at h
      obtain ⟨⟨⟨⟨_, h2⟩, rfl⟩, h4⟩, rfl⟩ := h
      rw [eqS_out h2, eqS_out h4]
      exact aw_div1
  · cases h
def aOne (m : List UInt8) (v : AV) (args : List AV) : Option (Bool × AV) := match args with
  | [.agg [.val (.bool b), .val (.string s)]] => some (!b && eqS s m, v)
  | _ => none
theorem aOne_out {m : List UInt8} {v : AV} {args : List AV} {r : AV} (h : aOne m v args = some (true, r)) : args = [big false m] ∧ r = v := by
  unfold aOne at h
  split at h
  · simp only [Option.some.injEq, Prod.mk.injEq, Bool.and_eq_true, Bool.not_eq_true'] at h
    obtain ⟨⟨rfl, h2⟩, rfl⟩ := h
    rw [eqS_out h2]
    exact ⟨rfl, rfl⟩
  · cases h
theorem eARoot : Entry Try.prog 18 (aOne [10] (.tup [big false [3], .val (.bool false), .val (.int .i64 0)])) :=
  entry_of (E := E00) (u := 20) (d := 20) (meets_none _) loops_none mixed (by kernel_rfl) (fun args r h => by obtain ⟨rfl, rfl⟩ := aOne_out h; exact aw_root)
theorem eABits : Entry Try.prog 19 (aOne [1, 0, 0, 0, 0, 0, 0, 0, 0] (.val (.int .i64 65))) :=
  entry_of (E := E00) (u := 20) (d := 20) (meets_none _) loops_none mixed (by kernel_rfl) (fun args r h => by obtain ⟨rfl, rfl⟩ := aOne_out h; exact aw_bits)
theorem eAPrint : Entry Try.prog 9 (aOne [1, 0, 0, 0, 0, 0, 0, 0, 0] (.val (.string ⟨⟨[49, 56, 52, 52, 54, 55, 52, 52, 48, 55, 51, 55, 48, 57, 53, 53, 49, 54, 49, 54]⟩⟩))) :=
  entry_of (E := E00) (u := 60) (d := 20) (meets_none _) loops_none mixed (by kernel_rfl) (fun args r h => by obtain ⟨rfl, rfl⟩ := aOne_out h; exact aw_print)
def EAw : Env := ⟨addC 15 aOf (addC 14 aMul (addC 17 aDiv (addC 18 (aOne [10] (.tup [big false [3], .val (.bool false), .val (.int .i64 0)])) (addC 19 (aOne [1, 0, 0, 0, 0, 0, 0, 0, 0] (.val (.int .i64 65))) (addC 9 (aOne [1, 0, 0, 0, 0, 0, 0, 0, 0] (.val (.string ⟨⟨[49, 56, 52, 52, 54, 55, 52, 52, 48, 55, 51, 55, 48, 57, 53, 53, 49, 54, 49, 54]⟩⟩))) noC))))), fun _ => false, noL⟩
theorem EAw_ok : Meets Try.prog EAw.C := ((((((meets_none _).add eAPrint).add eABits).add eARoot).add eADiv).add eAMul).add eAOf
theorem awake_call : callA Try.prog EAw 20 20 6 [] = some (.val (.bool true)) := by kernel_rfl
def tAwake (args : List AV) : Option (Bool × AV) := match args with | [] => some (true, .val (.bool true)) | _ => none
theorem eAwake : Entry Try.prog 6 tAwake := entry_of EAw_ok loops_none mixed (by kernel_rfl) (fun args r h => by
  unfold tAwake at h
  split at h
  · cases h; exact awake_call
  · cases h)
end
end Go.Proofs.Ytndpfegbbpoopaa.L
