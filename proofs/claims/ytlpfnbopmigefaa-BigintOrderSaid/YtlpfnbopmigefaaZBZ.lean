/- Little laws that the laws' proofs share. -/
import Derived.Test.YtlpfnbopmigefaaZL
import Derived.Test.YtlpfnbopmigefaaZA3
set_option linter.unusedVariables false
set_option linter.unusedSimpArgs false

/- Little laws that the laws' proofs share. -/
set_option linter.unusedVariables false
namespace Go.Proofs.Ytlpfnbopmigefaa.L
open Go Go.V Go.RowKit Go.Proofs.Ytlpfnbopmigefaa.Sp
open Go.Proofs (Try.prog)
noncomputable section
theorem chk_ms (z : Int) : sg0.chk (sg0.ng z) (sg0.ms z) = 0 := by
  show L.chk (enc z).1 (enc z).2 = 0
  unfold L.chk
  have e1 : magOf (vS (enc z).2) = (enc z).2 := by
    show magOf (vS (magOf z.natAbs)) = magOf z.natAbs
    rw [vS_magOf]
  rw [if_pos e1, if_neg]
  rintro ⟨h1, h2⟩
  unfold enc at h1
  simp only [decide_eq_true_eq] at h1
  have h3 := (toList_nil _).1 h2
  have h3 : (magOf z.natAbs).data.toList = [] := h3
  rw [magOf_data, toB_nil_iff] at h3
  omega
theorem strEq_self (s : ByteArray) : strEq s s = true := by unfold strEq; exact beq_self_eq_true _
theorem eqI {x y : Int} (h : x = y) : (sg0.ng x == sg0.ng y && (strEq (sg0.ms x) (sg0.ms y) && true)) = true := by
  rw [h, beq_self_eq_true, strEq_self]; rfl
theorem ms_zero : sg0.ms 0 = ByteArray.mk #[] := by
  show magOf 0 = _
  unfold magOf
  rw [toB_zero]
theorem eqZ {x : Int} (h : x = 0) : (sg0.ng x == false && (strEq (sg0.ms x) (ByteArray.mk #[]) && true)) = true := by
  rw [h, ms_zero, strEq_self]; rfl
theorem val_nil : sg0.val false (ByteArray.mk #[]) = 0 := rfl
theorem ok_nil : sg0.ok (ByteArray.mk #[]) = true := by
  exact decide_eq_true (show (ByteArray.mk #[]).size ≤ 8796093022208 by decide)
theorem ok_small {s : ByteArray} (h : s.size ≤ 60) : sg0.ok s = true := decide_eq_true (by omega)
theorem cmz_self {x y : Int} (h : x = y) : sg0.cmz x y = 0 := by
  show cmpZ x y = 0
  unfold cmpZ
  rw [if_neg (by omega), if_neg (by omega)]
theorem arg_int (B : Nat → Prop) (w : World) (b : Bool) (s : ByteArray) : (AV.agg [.val (.bool b), .val (.string s)]).Rel Try.prog NoA B w NoD (.agg #[.bool b, .string s]) := ⟨_, rfl, _, _, rfl, rfl, _, _, rfl, rfl, rfl⟩
/-- What the executor gives, as a walk: for a law. -/
theorem law_walk {E : Env} {g : FuncId} {args : List AV} {xs : Array Value} (hC : Meets Try.prog E.C) (hL : LoopsOk Try.prog E) (hok : okFn Try.prog g = true) {u d : Nat} (h : callA Try.prog E u d g args = some (.val (.bool true))) (W : World) (ha : RelL Try.prog NoA (fun _ => False) W args NoD xs.toList) :
    Calls Try.prog g xs W fun e w' => e = .returned (.bool true) ∧ Below W.heap.size W w' := by
  refine (callA_sound hC hL mixed hok h (fun _ => False) W xs (fun _ h => h.elim) ha).mono ?_
  rintro e w' ⟨y, rfl, h2, h3⟩
  have h3 : y = .bool true := h3
  exact ⟨by rw [h3], h2⟩
end
end Go.Proofs.Ytlpfnbopmigefaa.L
