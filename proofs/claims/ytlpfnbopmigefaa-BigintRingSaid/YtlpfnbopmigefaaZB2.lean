/- BigintRing holds. -/
import Derived.Test.YtlpfnbopmigefaaZB1

/- BigintRing holds. -/
set_option linter.unusedVariables false
namespace Go.Proofs.Ytlpfnbopmigefaa.L
open Go Go.V Go.RowKit Go.Proofs.Ytlpfnbopmigefaa.Sp
open Go.Proofs (Try.prog)
noncomputable section
theorem chk_ms (z : Int) : sg0.chk (sg0.ng z) (sg0.ms z) = 0 := by
  show L.chk (enc z).1 (enc z).2 = 0
  unfold L.chk
  have e1 : magOf (vS (enc z).2) = (enc z).2 := by
    show magOf (vS (magOf z.natAbs)) = magOf z.natAbs
    rw [vS_magOf]
  rw [if_pos e1, if_neg]
  rintro ⟨h1, h2⟩
  unfold enc at h1
  simp only [decide_eq_true_eq] at h1
  have h3 := (toList_nil _).1 h2
  have h3 : (magOf z.natAbs).data.toList = [] := h3
  rw [magOf_data, toB_nil_iff] at h3
  omega
theorem strEq_self (s : ByteArray) : strEq s s = true := by unfold strEq; exact beq_self_eq_true _
theorem eqI {x y : Int} (h : x = y) : (sg0.ng x == sg0.ng y && (strEq (sg0.ms x) (sg0.ms y) && true)) = true := by
  rw [h, beq_self_eq_true, strEq_self]; rfl
theorem ms_zero : sg0.ms 0 = ByteArray.mk #[] := by
  show magOf 0 = _
  unfold magOf
  rw [toB_zero]
theorem eqZ {x : Int} (h : x = 0) : (sg0.ng x == false && (strEq (sg0.ms x) (ByteArray.mk #[]) && true)) = true := by
  rw [h, ms_zero, strEq_self]; rfl
theorem val_nil : sg0.val false (ByteArray.mk #[]) = 0 := rfl
theorem ok_nil : sg0.ok (ByteArray.mk #[]) = true := by
  exact decide_eq_true (show (ByteArray.mk #[]).size ≤ 8796093022208 by decide)
theorem ok_small {s : ByteArray} (h : s.size ≤ 60) : sg0.ok s = true := decide_eq_true (by omega)
theorem cmz_self {x y : Int} (h : x = y) : sg0.cmz x y = 0 := by
  show cmpZ x y = 0
  unfold cmpZ
  rw [if_neg (by omega), if_neg (by omega)]
theorem ring_true (b c d : Bool) (s t u : ByteArray) : callA Try.prog (ER sg0) 10 10 8 [.agg [.val (.bool b), .val (.string s)], .agg [.val (.bool c), .val (.string t)], .agg [.val (.bool d), .val (.string u)]] = some (.val (.bool true)) := by
  rw [ring_call]
  by_cases h1 : (60 : Int) < s.size
  · rw [dT h1]; rfl
  by_cases h2 : (60 : Int) < t.size
  · rw [dF h1, dT h2]; rfl
  by_cases h3 : (60 : Int) < u.size
  · rw [dF h1, dF h2, dT h3]; rfl
  rw [dF h1, dF h2, dF h3]
  have os := ok_small (s := s) (by omega)
  have ot := ok_small (s := t) (by omega)
  have ou := ok_small (s := u) (by omega)
  have bx := bs_val b s
  have by_ := bs_val c t
  have bz := bs_val d u
  simp only [val_ms, os, ot, ou, ok_nil, val_nil, chk_ms]
  generalize sg0.val b s = x at *
  generalize sg0.val c t = y at *
  generalize sg0.val d u = z at *
  have q1 := bs_zadd x y
  have q2 := bs_zmul x y
  have q3 := bs_zadd y z
  have q4 := bs_zmul y z
  have q5 := bs_zmul x z
  have q6 := bs_zsub (x + y) y
  have q7 := bs_neg (x + y)
  rw [ok_ms (z := x + y) (by omega), ok_ms (z := y + z) (by omega), ok_ms (z := x * y) (by omega), ok_ms (z := y * z) (by omega), ok_ms (z := x * z) (by omega), ok_ms (z := x + y - y) (by omega), ok_ms (z := -(x + y)) (by omega),
    eqI (Int.add_comm x y), eqI (Int.mul_comm x y), eqI (Int.add_assoc x y z), eqI (Int.mul_assoc x y z), eqI (Int.mul_add x y z), cmz_self (show x + y - y = x by omega), eqZ (show x + y + -(x + y) = 0 by omega)]
  rfl
theorem arg_int (B : Nat → Prop) (w : World) (b : Bool) (s : ByteArray) : (AV.agg [.val (.bool b), .val (.string s)]).Rel Try.prog NoA B w NoD (.agg #[.bool b, .string s]) := ⟨_, rfl, _, _, rfl, rfl, _, _, rfl, rfl, rfl⟩
/-- What the executor gives, as a walk: for a law. -/
theorem law_walk {E : Env} {g : FuncId} {args : List AV} {xs : Array Value} (hC : Meets Try.prog E.C) (hL : LoopsOk Try.prog E) (hok : okFn Try.prog g = true) {u d : Nat} (h : callA Try.prog E u d g args = some (.val (.bool true))) (W : World) (ha : RelL Try.prog NoA (fun _ => False) W args NoD xs.toList) :
    Calls Try.prog g xs W fun e w' => e = .returned (.bool true) ∧ Below W.heap.size W w' := by
  refine (callA_sound hC hL mixed hok h (fun _ => False) W xs (fun _ h => h.elim) ha).mono ?_
  rintro e w' ⟨y, rfl, h2, h3⟩
  have h3 : y = .bool true := h3
  exact ⟨by rw [h3], h2⟩
theorem ring_walk (b : Bool) (s : ByteArray) (c : Bool) (t : ByteArray) (d : Bool) (u : ByteArray) (W : World) : Calls Try.prog 8 #[.agg #[.bool b, .string s], .agg #[.bool c, .string t], .agg #[.bool d, .string u]] W fun e w' => e = .returned (.bool true) ∧ Below W.heap.size W w' :=
  law_walk CB_ok loops_none (by kernel_rfl) (ring_true b c d s t u) W ⟨_, _, rfl, arg_int _ _ b s, _, _, rfl, arg_int _ _ c t, _, _, rfl, arg_int _ _ d u, rfl⟩
end
end Go.Proofs.Ytlpfnbopmigefaa.L
