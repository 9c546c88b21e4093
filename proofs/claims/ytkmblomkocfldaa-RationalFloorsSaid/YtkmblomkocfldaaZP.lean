/- Words: what the printed definitions lean on (out of the text that print.sh has written for this seat). -/
import Derived.Below
import Derived.Tactics
import Derived.Laws.BytesArg
import Derived.Lib.ConvBytes
import Derived.Laws.Slices
import Derived.Lib.Bytes
import Derived.Laws.BitsAllLaws
import Derived.Laws.Bits64
import Derived.KernelRfl
import Derived.RowKit
set_option linter.unusedVariables false
set_option linter.unusedSimpArgs false

/- Words: what the printed definitions lean on (out of the text that print.sh has written for this seat). -/
set_option linter.unusedVariables false
set_option linter.unusedSimpArgs false
namespace Go.Proofs.YtkmblomkocfldaaW.PrintMore
end Go.Proofs.YtkmblomkocfldaaW.PrintMore
namespace Go.Proofs.YtkmblomkocfldaaW.PrintWords
open Go.RowKit
/-- A fact that the walk's simp doesn't look into. -/
structure Aside0 (p : Prop) : Prop where mk :: (out : p)
def rd (xs : List Int) (i : Int) : Int := xs.getD i.toNat 0
def bt (s : ByteArray) (i : Int) : Int := if h : i.toNat < s.size then ((s[i.toNat]'h).toNat : Int) else 0
theorem bt_at (s : ByteArray) (i : Int) : ∀ h : i.toNat < s.size, ((s[i.toNat]'h).toNat : Int) = bt s i := fun h => by simp [bt, h]
theorem bt_range (s : ByteArray) (i : Int) : 0 ≤ bt s i ∧ bt s i ≤ 255 := by
  unfold bt
  split
  · rename_i h
    have := (s[i.toNat]'h).toNat_lt
    omega
  · omega
/-- Where the first answers, the second answers the same. -/
def LeO {α : Type} (a b : Option α) : Prop := ∀ r, a = some r → b = some r
theorem LeO.refl {α : Type} (a : Option α) : LeO a a := fun _ h => h
theorem LeO.none {α : Type} (b : Option α) : LeO Option.none b := fun _ h => by cases h
theorem LeO.trans {α : Type} {a b c : Option α} (h : LeO a b) (k : LeO b c) : LeO a c := fun r hr => k r (h r hr)
theorem LeO.ite {α : Type} {c : Prop} [Decidable c] {a a' b b' : Option α} (h : LeO a a') (k : LeO b b') : LeO (if c then a else b) (if c then a' else b') := by
  split
  · exact h
  · exact k
theorem LeO.bind {α β : Type} {a a' : Option α} {f f' : α → Option β} (h : LeO a a') (k : ∀ x, LeO (f x) (f' x)) : LeO (a.bind f) (a'.bind f') := by
  intro r hr
  obtain ⟨x, hx, hf⟩ := Option.bind_eq_some_iff.1 hr
  exact Option.bind_eq_some_iff.2 ⟨x, h x hx, k x r hf⟩
theorem more_rounds {α : Type} {g : Nat → Option α} (h : ∀ k, LeO (g k) (g (k + 1))) (k : Nat) : ∀ j, LeO (g k) (g (k + j))
  | 0 => LeO.refl _
  | j + 1 => (more_rounds h k j).trans (h (k + j))
theorem at_rounds {α : Type} {g : Nat → Option α} (h : ∀ k, LeO (g k) (g (k + 1))) {k k' : Nat} (hk : k ≤ k') {r : α} (hr : g k = some r) : g k' = some r := by
  have := more_rounds h k (k' - k) r hr
  rwa [Nat.add_sub_cancel' hk] at this
/-- A shift to the left, as Go tells it: a count beyond the width leaves nothing. -/
def shl (k : IntKind) (x y : Int) : Int := k.wrap (x * 2 ^ min y.toNat k.bits)
/-- A shift to the right: a count beyond the width leaves the sign. -/
def shr (k : IntKind) (x y : Int) : Int := x / 2 ^ min y.toNat k.bits
end Go.Proofs.YtkmblomkocfldaaW.PrintWords

/- Definitions: what the functions of bigint compute, with rounds (out of the texts that gen.py has written for this seat). -/
set_option linter.unusedVariables false
set_option linter.unusedSimpArgs false
namespace Go.Proofs.Ytkmblomkocfldaa.F
open Go.RowKit Go.Proofs.YtkmblomkocfldaaW.PrintWords Go.Proofs.YtkmblomkocfldaaW.PrintMore
def bigint_strip.l0 : Nat → ByteArray → Option (ByteArray)
  | 0, _ => none
  | k + 1, x0 => if x0.toList = ([] : List UInt8) then (some x0) else (if 0 < (x0.size : Int) then (if (bt x0 0) = 0 then (if 1 ≤ (x0.size : Int) then (bigint_strip.l0 k (x0.extract 1 x0.size)) else (none)) else (some x0)) else (none))
def bigint_strip.f (k : Nat) (a0 : ByteArray) : Option (ByteArray) := bigint_strip.l0 k a0
theorem bigint_strip.mono_l : ∀ k, (∀ y0, LeO (bigint_strip.l0 k y0) (bigint_strip.l0 (k + 1) y0))
  | 0 => fun _ r h => by simp [bigint_strip.l0] at h
  | k + 1 => by
    have ih0 := bigint_strip.mono_l k
    · intro y0
      unfold bigint_strip.l0
      repeat' first
      | (with_reducible exact ih0 _)
      | (with_reducible exact LeO.refl _)
      | (with_reducible exact LeO.none _)
      | (with_reducible refine LeO.ite ?_ ?_)
      | (with_reducible refine LeO.bind ?_ (fun _ => ?_))
      | exact ih0 _
      | exact LeO.none _
      | refine LeO.ite ?_ ?_
      | refine LeO.bind ?_ (fun _ => ?_)
theorem bigint_strip.mono : ∀ a0 k, LeO (bigint_strip.f k a0) (bigint_strip.f (k + 1) a0) := by
  intro a0 k
  have ih0 := bigint_strip.mono_l k
  unfold bigint_strip.f
  repeat' first
      | (with_reducible exact ih0 _)
      | (with_reducible exact LeO.refl _)
      | (with_reducible exact LeO.none _)
      | (with_reducible refine LeO.ite ?_ ?_)
      | (with_reducible refine LeO.bind ?_ (fun _ => ?_))
      | exact ih0 _
      | exact LeO.none _
      | refine LeO.ite ?_ ?_
      | refine LeO.bind ?_ (fun _ => ?_)
def bigint_load.l0 : Nat → ByteArray → List Int → Int → Int → Option (List Int)
  | 0, _, _, _, _ => none
  | k + 1, x0, x3, x15, x16 => if x16 < x15 then (if 0 ≤ (wrap64 (Int.tdiv x16 4)) then (if (wrap64 (Int.tdiv x16 4)) < (x3.length : Int) then (if 0 ≤ (wrap64 ((wrap64 ((x0.size : Int) - 1)) - x16)) then (if (wrap64 ((wrap64 ((x0.size : Int) - 1)) - x16)) < (x0.size : Int) then (if 0 ≤ (wrap64 (8 * (Int.tmod x16 4))) then (bigint_load.l0 k x0 (x3.set ((wrap64 (Int.tdiv x16 4)) : Int).toNat (Go.bits .or .u32 (rd x3 (wrap64 (Int.tdiv x16 4))) (shl .u32 ((bt x0 (wrap64 ((wrap64 ((x0.size : Int) - 1)) - x16))) % 4294967296) (wrap64 (8 * (Int.tmod x16 4)))))) x15 (wrap64 (x16 + 1))) else (none)) else (none)) else (none)) else (none)) else (none)) else (some x3)
def bigint_load.f (k : Nat) (a0 : ByteArray) : Option (List Int) := (bigint_strip.f k a0).bind fun t105 => (if 0 ≤ (wrap64 (Int.tdiv (wrap64 ((wrap64 ((t105.size : Int) + 4)) - 1)) 4)) then (if (wrap64 (Int.tdiv (wrap64 ((wrap64 ((t105.size : Int) + 4)) - 1)) 4) : Int).toNat ≤ 70368744177664 then (bigint_load.l0 k t105 (List.replicate (wrap64 (Int.tdiv (wrap64 ((wrap64 ((t105.size : Int) + 4)) - 1)) 4) : Int).toNat 0) (t105.size : Int) 0) else (none)) else (none))
theorem bigint_load.mono_l : ∀ k, (∀ y0 y1 y2 y3, LeO (bigint_load.l0 k y0 y1 y2 y3) (bigint_load.l0 (k + 1) y0 y1 y2 y3))
  | 0 => fun _ _ _ _ r h => by simp [bigint_load.l0] at h
  | k + 1 => by
    have ih0 := bigint_load.mono_l k
    · intro y0 y1 y2 y3
      unfold bigint_load.l0
      repeat' first
      | (with_reducible exact ih0 _ _ _ _)
      | (with_reducible exact bigint_strip.mono _ _)
      | (with_reducible exact LeO.refl _)
      | (with_reducible exact LeO.none _)
      | (with_reducible refine LeO.ite ?_ ?_)
      | (with_reducible refine LeO.bind ?_ (fun _ => ?_))
      | exact ih0 _ _ _ _
      | exact bigint_strip.mono _ _
      | exact LeO.none _
      | refine LeO.ite ?_ ?_
      | refine LeO.bind ?_ (fun _ => ?_)
theorem bigint_load.mono : ∀ a0 k, LeO (bigint_load.f k a0) (bigint_load.f (k + 1) a0) := by
  intro a0 k
  have ih0 := bigint_load.mono_l k
  unfold bigint_load.f
  repeat' first
      | (with_reducible exact ih0 _ _ _ _)
      | (with_reducible exact bigint_strip.mono _ _)
      | (with_reducible exact LeO.refl _)
      | (with_reducible exact LeO.none _)
      | (with_reducible refine LeO.ite ?_ ?_)
      | (with_reducible refine LeO.bind ?_ (fun _ => ?_))
      | exact ih0 _ _ _ _
      | exact bigint_strip.mono _ _
      | exact LeO.none _
      | refine LeO.ite ?_ ?_
      | refine LeO.bind ?_ (fun _ => ?_)
def bigint_limbs_trim.l0 : Nat → List Int → Option (List Int)
  | 0, _ => none
  | k + 1, x0 => if (x0.length : Int) > 0 then (if 0 ≤ (wrap64 ((x0.length : Int) - 1)) then (if (wrap64 ((x0.length : Int) - 1)) < (x0.length : Int) then (if (rd x0 (wrap64 ((x0.length : Int) - 1))) = 0 then (if (wrap64 ((x0.length : Int) - 1)) ≤ (x0.length : Int) then (bigint_limbs_trim.l0 k (x0.take ((wrap64 ((x0.length : Int) - 1)) : Int).toNat)) else (none)) else (some x0)) else (none)) else (none)) else (some x0)
def bigint_limbs_trim.f (k : Nat) (l0 : List Int) : Option (List Int) := bigint_limbs_trim.l0 k l0
theorem bigint_limbs_trim.mono_l : ∀ k, (∀ y0, LeO (bigint_limbs_trim.l0 k y0) (bigint_limbs_trim.l0 (k + 1) y0))
  | 0 => fun _ r h => by simp [bigint_limbs_trim.l0] at h
  | k + 1 => by
    have ih0 := bigint_limbs_trim.mono_l k
    · intro y0
      unfold bigint_limbs_trim.l0
      repeat' first
      | (with_reducible exact ih0 _)
      | (with_reducible exact LeO.refl _)
      | (with_reducible exact LeO.none _)
      | (with_reducible refine LeO.ite ?_ ?_)
      | (with_reducible refine LeO.bind ?_ (fun _ => ?_))
      | exact ih0 _
      | exact LeO.none _
      | refine LeO.ite ?_ ?_
      | refine LeO.bind ?_ (fun _ => ?_)
theorem bigint_limbs_trim.mono : ∀ a0 k, LeO (bigint_limbs_trim.f k a0) (bigint_limbs_trim.f (k + 1) a0) := by
  intro a0 k
  have ih0 := bigint_limbs_trim.mono_l k
  unfold bigint_limbs_trim.f
  repeat' first
      | (with_reducible exact ih0 _)
      | (with_reducible exact LeO.refl _)
      | (with_reducible exact LeO.none _)
      | (with_reducible refine LeO.ite ?_ ?_)
      | (with_reducible refine LeO.bind ?_ (fun _ => ?_))
      | exact ih0 _
      | exact LeO.none _
      | refine LeO.ite ?_ ?_
      | refine LeO.bind ?_ (fun _ => ?_)
def bigint_limbs_store.l0 : Nat → List Int → List Int → Int → Option (ByteArray)
  | 0, _, _, _ => none
  | k + 1, x0, x3, x4 => if x4 ≥ 0 then (if 0 ≤ x4 then (if x4 < (x0.length : Int) then ((some (([((rd x0 x4) / 16777216) % 256, ((rd x0 x4) / 65536) % 256, ((rd x0 x4) / 256) % 256, (rd x0 x4) % 256] : List Int) : List Int)).bind fun y121 => (if x3.length + y121.length < 140737488355328 then (bigint_limbs_store.l0 k x0 (x3 ++ y121) (wrap64 (x4 - 1))) else (none))) else (none)) else (none)) else ((bigint_strip.f k (strOfNums x3)).bind fun t127 => (some t127))
def bigint_limbs_store.f (k : Nat) (l0 : List Int) : Option (ByteArray) := bigint_limbs_store.l0 k l0 ([] : List Int) (wrap64 ((l0.length : Int) - 1))
theorem bigint_limbs_store.mono_l : ∀ k, (∀ y0 y1 y2, LeO (bigint_limbs_store.l0 k y0 y1 y2) (bigint_limbs_store.l0 (k + 1) y0 y1 y2))
  | 0 => fun _ _ _ r h => by simp [bigint_limbs_store.l0] at h
  | k + 1 => by
    have ih0 := bigint_limbs_store.mono_l k
    · intro y0 y1 y2
      unfold bigint_limbs_store.l0
      repeat' first
      | (with_reducible exact ih0 _ _ _)
      | (with_reducible exact bigint_strip.mono _ _)
      | (with_reducible exact LeO.refl _)
      | (with_reducible exact LeO.none _)
      | (with_reducible refine LeO.ite ?_ ?_)
      | (with_reducible refine LeO.bind ?_ (fun _ => ?_))
      | exact ih0 _ _ _
      | exact bigint_strip.mono _ _
      | exact LeO.none _
      | refine LeO.ite ?_ ?_
      | refine LeO.bind ?_ (fun _ => ?_)
theorem bigint_limbs_store.mono : ∀ a0 k, LeO (bigint_limbs_store.f k a0) (bigint_limbs_store.f (k + 1) a0) := by
  intro a0 k
  have ih0 := bigint_limbs_store.mono_l k
  unfold bigint_limbs_store.f
  repeat' first
      | (with_reducible exact ih0 _ _ _)
      | (with_reducible exact bigint_strip.mono _ _)
      | (with_reducible exact LeO.refl _)
      | (with_reducible exact LeO.none _)
      | (with_reducible refine LeO.ite ?_ ?_)
      | (with_reducible refine LeO.bind ?_ (fun _ => ?_))
      | exact ih0 _ _ _
      | exact bigint_strip.mono _ _
      | exact LeO.none _
      | refine LeO.ite ?_ ?_
      | refine LeO.bind ?_ (fun _ => ?_)
def bigint_pack.f (k : Nat) (a0 : Bool) (l1 : List Int) : Option (Bool × ByteArray) := (bigint_limbs_trim.f k l1).bind fun t129 => ((bigint_limbs_store.f k t129).bind fun t132 => (if a0 = true then (some ((!t132.toList.isEmpty), t132)) else (some (false, t132))))
theorem bigint_pack.mono : ∀ a0 a1 k, LeO (bigint_pack.f k a0 a1) (bigint_pack.f (k + 1) a0 a1) := by
  intro a0 a1 k
  unfold bigint_pack.f
  repeat' first
      | (with_reducible exact bigint_limbs_store.mono _ _)
      | (with_reducible exact bigint_limbs_trim.mono _ _)
      | (with_reducible exact LeO.refl _)
      | (with_reducible exact LeO.none _)
      | (with_reducible refine LeO.ite ?_ ?_)
      | (with_reducible refine LeO.bind ?_ (fun _ => ?_))
      | exact bigint_limbs_store.mono _ _
      | exact bigint_limbs_trim.mono _ _
      | exact LeO.none _
      | refine LeO.ite ?_ ?_
      | refine LeO.bind ?_ (fun _ => ?_)
def bigint_Of.f (k : Nat) (a0 : Int) : Option (Bool × ByteArray) := if a0 < 0 then ((bigint_pack.f k true (([(IntKind.u64.wrap (-(IntKind.u64.wrap (a0)))) % 4294967296, ((IntKind.u64.wrap (-(IntKind.u64.wrap (a0)))) / 4294967296) % 4294967296] : List Int))).bind fun bt162 => (some (bt162.1, bt162.2))) else ((bigint_pack.f k false (([(IntKind.u64.wrap (a0)) % 4294967296, ((IntKind.u64.wrap (a0)) / 4294967296) % 4294967296] : List Int))).bind fun bt167 => (some (bt167.1, bt167.2)))
theorem bigint_Of.mono : ∀ a0 k, LeO (bigint_Of.f k a0) (bigint_Of.f (k + 1) a0) := by
  intro a0 k
  unfold bigint_Of.f
  repeat' first
      | (with_reducible exact bigint_pack.mono _ _ _)
      | (with_reducible exact LeO.refl _)
      | (with_reducible exact LeO.none _)
      | (with_reducible refine LeO.ite ?_ ?_)
      | (with_reducible refine LeO.bind ?_ (fun _ => ?_))
      | exact bigint_pack.mono _ _ _
      | exact LeO.none _
      | refine LeO.ite ?_ ?_
      | refine LeO.bind ?_ (fun _ => ?_)
def bigint_little.l0 : Nat → Int → Int → Int → Bool → ByteArray → Option (Int × Bool)
  | 0, _, _, _, _, _ => none
  | k + 1, x4, x12, x13, x170000, x170001 => if x13 < x12 then (if 0 ≤ x13 then (if x13 < (x170001.size : Int) then (bigint_little.l0 k (Go.bits .or .i64 (wrap64 (x4 * 256)) (wrap64 (bt x170001 x13))) x12 (wrap64 (x13 + 1)) x170000 x170001) else (none)) else (none)) else (if x170000 = true then (some (wrap64 (-x4), true)) else (some (x4, true)))
def bigint_little.f (k : Nat) (a0_0 : Bool) (a0_1 : ByteArray) : Option (Int × Bool) := if (a0_1.size : Int) > 7 then (some (0, false)) else (bigint_little.l0 k 0 (a0_1.size : Int) 0 a0_0 a0_1)
theorem bigint_little.mono_l : ∀ k, (∀ y0 y1 y2 y3 y4, LeO (bigint_little.l0 k y0 y1 y2 y3 y4) (bigint_little.l0 (k + 1) y0 y1 y2 y3 y4))
  | 0 => fun _ _ _ _ _ r h => by simp [bigint_little.l0] at h
  | k + 1 => by
    have ih0 := bigint_little.mono_l k
    · intro y0 y1 y2 y3 y4
      unfold bigint_little.l0
      repeat' first
      | (with_reducible exact ih0 _ _ _ _ _)
      | (with_reducible exact LeO.refl _)
      | (with_reducible exact LeO.none _)
      | (with_reducible refine LeO.ite ?_ ?_)
      | (with_reducible refine LeO.bind ?_ (fun _ => ?_))
      | exact ih0 _ _ _ _ _
      | exact LeO.none _
      | refine LeO.ite ?_ ?_
      | refine LeO.bind ?_ (fun _ => ?_)
theorem bigint_little.mono : ∀ a0 a1 k, LeO (bigint_little.f k a0 a1) (bigint_little.f (k + 1) a0 a1) := by
  intro a0 a1 k
  have ih0 := bigint_little.mono_l k
  unfold bigint_little.f
  repeat' first
      | (with_reducible exact ih0 _ _ _ _ _)
      | (with_reducible exact LeO.refl _)
      | (with_reducible exact LeO.none _)
      | (with_reducible refine LeO.ite ?_ ?_)
      | (with_reducible refine LeO.bind ?_ (fun _ => ?_))
      | exact ih0 _ _ _ _ _
      | exact LeO.none _
      | refine LeO.ite ?_ ?_
      | refine LeO.bind ?_ (fun _ => ?_)
def bigint_limbs_compare.l0 : Nat → List Int → List Int → Int → Option (Int)
  | 0, _, _, _ => none
  | k + 1, x0, x1, x5 => if x5 ≥ 0 then (if 0 ≤ x5 then (if x5 < (x0.length : Int) then (if x5 < (x1.length : Int) then (if (rd x0 x5) < (rd x1 x5) then (some (-1)) else (if (rd x0 x5) > (rd x1 x5) then (some 1) else (bigint_limbs_compare.l0 k x0 x1 (wrap64 (x5 - 1))))) else (none)) else (none)) else (none)) else (some 0)
def bigint_limbs_compare.f (k : Nat) (l0 : List Int) (l1 : List Int) : Option (Int) := if (l0.length : Int) = (l1.length : Int) then (bigint_limbs_compare.l0 k l0 l1 (wrap64 ((l0.length : Int) - 1))) else (if (l0.length : Int) < (l1.length : Int) then (some (-1)) else (some 1))
theorem bigint_limbs_compare.mono_l : ∀ k, (∀ y0 y1 y2, LeO (bigint_limbs_compare.l0 k y0 y1 y2) (bigint_limbs_compare.l0 (k + 1) y0 y1 y2))
  | 0 => fun _ _ _ r h => by simp [bigint_limbs_compare.l0] at h
  | k + 1 => by
    have ih0 := bigint_limbs_compare.mono_l k
    · intro y0 y1 y2
      unfold bigint_limbs_compare.l0
      repeat' first
      | (with_reducible exact ih0 _ _ _)
      | (with_reducible exact LeO.refl _)
      | (with_reducible exact LeO.none _)
      | (with_reducible refine LeO.ite ?_ ?_)
      | (with_reducible refine LeO.bind ?_ (fun _ => ?_))
      | exact ih0 _ _ _
      | exact LeO.none _
      | refine LeO.ite ?_ ?_
      | refine LeO.bind ?_ (fun _ => ?_)
theorem bigint_limbs_compare.mono : ∀ a0 a1 k, LeO (bigint_limbs_compare.f k a0 a1) (bigint_limbs_compare.f (k + 1) a0 a1) := by
  intro a0 a1 k
  have ih0 := bigint_limbs_compare.mono_l k
  unfold bigint_limbs_compare.f
  repeat' first
      | (with_reducible exact ih0 _ _ _)
      | (with_reducible exact LeO.refl _)
      | (with_reducible exact LeO.none _)
      | (with_reducible refine LeO.ite ?_ ?_)
      | (with_reducible refine LeO.bind ?_ (fun _ => ?_))
      | exact ih0 _ _ _
      | exact LeO.none _
      | refine LeO.ite ?_ ?_
      | refine LeO.bind ?_ (fun _ => ?_)
mutual
def bigint_limbs_times.l0 : Nat → List Int → List Int → List Int → Int → Int → Option (List Int)
  | 0, _, _, _, _, _ => none
  | k + 1, x1, x5, x17, x18, x19 => if x19 < x18 then (if 0 ≤ x19 then (if x19 < (x17.length : Int) then (bigint_limbs_times.l1 k x1 x5 x19 (rd x17 x19) 0 x17 x18 x19 x1 (x1.length : Int) 0) else (none)) else (none)) else ((bigint_limbs_trim.f k x5).bind fun t136 => (some t136))
def bigint_limbs_times.l1 : Nat → List Int → List Int → Int → Int → Int → List Int → Int → Int → List Int → Int → Int → Option (List Int)
  | 0, _, _, _, _, _, _, _, _, _, _, _ => none
  | k + 1, x1, x5, x6, x7, x8, x17, x18, x19, x24, x25, x26 => if x26 < x25 then (if 0 ≤ x26 then (if x26 < (x24.length : Int) then (if 0 ≤ (wrap64 (x6 + x26)) then (if (wrap64 (x6 + x26)) < (x5.length : Int) then (bigint_limbs_times.l1 k x1 (x5.set ((wrap64 (x6 + x26)) : Int).toNat ((IntKind.u64.wrap (x8 + (IntKind.u64.wrap ((IntKind.u64.wrap ((IntKind.u64.wrap (x7)) * (IntKind.u64.wrap (rd x24 x26)))) + (IntKind.u64.wrap (rd x5 (wrap64 (x6 + x26)))))))) % 4294967296)) x6 x7 ((IntKind.u64.wrap (x8 + (IntKind.u64.wrap ((IntKind.u64.wrap ((IntKind.u64.wrap (x7)) * (IntKind.u64.wrap (rd x24 x26)))) + (IntKind.u64.wrap (rd x5 (wrap64 (x6 + x26)))))))) / 4294967296) x17 x18 x19 x24 x25 (wrap64 (x26 + 1))) else (none)) else (none)) else (none)) else (none)) else (if 0 ≤ (wrap64 (x6 + (x1.length : Int))) then (if (wrap64 (x6 + (x1.length : Int))) < (x5.length : Int) then (bigint_limbs_times.l0 k x1 (x5.set ((wrap64 (x6 + (x1.length : Int))) : Int).toNat ((x8) % 4294967296)) x17 x18 (wrap64 (x19 + 1))) else (none)) else (none))
end
def bigint_limbs_times.f (k : Nat) (l0 : List Int) (l1 : List Int) : Option (List Int) := if 0 ≤ (wrap64 ((l0.length : Int) + (l1.length : Int))) then (if (wrap64 ((l0.length : Int) + (l1.length : Int)) : Int).toNat ≤ 70368744177664 then (bigint_limbs_times.l0 k l1 (List.replicate (wrap64 ((l0.length : Int) + (l1.length : Int)) : Int).toNat 0) l0 (l0.length : Int) 0) else (none)) else (none)
theorem bigint_limbs_times.mono_l : ∀ k, (∀ y0 y1 y2 y3 y4, LeO (bigint_limbs_times.l0 k y0 y1 y2 y3 y4) (bigint_limbs_times.l0 (k + 1) y0 y1 y2 y3 y4)) ∧ (∀ y0 y1 y2 y3 y4 y5 y6 y7 y8 y9 y10, LeO (bigint_limbs_times.l1 k y0 y1 y2 y3 y4 y5 y6 y7 y8 y9 y10) (bigint_limbs_times.l1 (k + 1) y0 y1 y2 y3 y4 y5 y6 y7 y8 y9 y10))
  | 0 => ⟨fun _ _ _ _ _ r h => by simp [bigint_limbs_times.l0] at h, fun _ _ _ _ _ _ _ _ _ _ _ r h => by simp [bigint_limbs_times.l1] at h⟩
  | k + 1 => by
    obtain ⟨ih0, ih1⟩ := bigint_limbs_times.mono_l k
    refine ⟨?_, ?_⟩
    · intro y0 y1 y2 y3 y4
      unfold bigint_limbs_times.l0
      repeat' first
      | (with_reducible exact ih0 _ _ _ _ _)
      | (with_reducible exact ih1 _ _ _ _ _ _ _ _ _ _ _)
      | (with_reducible exact bigint_limbs_trim.mono _ _)
      | (with_reducible exact LeO.refl _)
      | (with_reducible exact LeO.none _)
      | (with_reducible refine LeO.ite ?_ ?_)
      | (with_reducible refine LeO.bind ?_ (fun _ => ?_))
      | exact ih0 _ _ _ _ _
      | exact ih1 _ _ _ _ _ _ _ _ _ _ _
      | exact bigint_limbs_trim.mono _ _
      | exact LeO.none _
      | refine LeO.ite ?_ ?_
      | refine LeO.bind ?_ (fun _ => ?_)
    · intro y0 y1 y2 y3 y4 y5 y6 y7 y8 y9 y10
      unfold bigint_limbs_times.l1
      repeat' first
      | (with_reducible exact ih0 _ _ _ _ _)
      | (with_reducible exact ih1 _ _ _ _ _ _ _ _ _ _ _)
      | (with_reducible exact bigint_limbs_trim.mono _ _)
      | (with_reducible exact LeO.refl _)
      | (with_reducible exact LeO.none _)
      | (with_reducible refine LeO.ite ?_ ?_)
      | (with_reducible refine LeO.bind ?_ (fun _ => ?_))
      | exact ih0 _ _ _ _ _
      | exact ih1 _ _ _ _ _ _ _ _ _ _ _
      | exact bigint_limbs_trim.mono _ _
      | exact LeO.none _
      | refine LeO.ite ?_ ?_
      | refine LeO.bind ?_ (fun _ => ?_)
theorem bigint_limbs_times.mono : ∀ a0 a1 k, LeO (bigint_limbs_times.f k a0 a1) (bigint_limbs_times.f (k + 1) a0 a1) := by
  intro a0 a1 k
  obtain ⟨ih0, ih1⟩ := bigint_limbs_times.mono_l k
  unfold bigint_limbs_times.f
  repeat' first
      | (with_reducible exact ih0 _ _ _ _ _)
      | (with_reducible exact ih1 _ _ _ _ _ _ _ _ _ _ _)
      | (with_reducible exact bigint_limbs_trim.mono _ _)
      | (with_reducible exact LeO.refl _)
      | (with_reducible exact LeO.none _)
      | (with_reducible refine LeO.ite ?_ ?_)
      | (with_reducible refine LeO.bind ?_ (fun _ => ?_))
      | exact ih0 _ _ _ _ _
      | exact ih1 _ _ _ _ _ _ _ _ _ _ _
      | exact bigint_limbs_trim.mono _ _
      | exact LeO.none _
      | refine LeO.ite ?_ ?_
      | refine LeO.bind ?_ (fun _ => ?_)
def bigint_limbs_plus_a.l0 : Nat → List Int → List Int → Int → List Int → Int → Int → Option (List Int)
  | 0, _, _, _, _, _, _ => none
  | k + 1, x1, x5, x6, x20, x21, x22 => if x22 < x21 then (if 0 ≤ x22 then (if x22 < (x20.length : Int) then (if x22 < (x1.length : Int) then (if x5.length < 35184372088832 then (bigint_limbs_plus_a.l0 k x1 (x5 ++ [(IntKind.u64.wrap ((IntKind.u64.wrap (x6 + (IntKind.u64.wrap (rd x20 x22)))) + (IntKind.u64.wrap (rd x1 x22)))) % 4294967296]) ((IntKind.u64.wrap ((IntKind.u64.wrap (x6 + (IntKind.u64.wrap (rd x20 x22)))) + (IntKind.u64.wrap (rd x1 x22)))) / 4294967296) x20 x21 (wrap64 (x22 + 1))) else (none)) else (if x5.length < 35184372088832 then (bigint_limbs_plus_a.l0 k x1 (x5 ++ [(IntKind.u64.wrap (x6 + (IntKind.u64.wrap (rd x20 x22)))) % 4294967296]) ((IntKind.u64.wrap (x6 + (IntKind.u64.wrap (rd x20 x22)))) / 4294967296) x20 x21 (wrap64 (x22 + 1))) else (none))) else (none)) else (none)) else (if x5.length < 35184372088832 then ((bigint_limbs_trim.f k (x5 ++ [(x6) % 4294967296])).bind fun t184 => (some t184)) else (none))
def bigint_limbs_plus_a.f (k : Nat) (l0 : List Int) (l1 : List Int) : Option (List Int) := if (l0.length : Int) < (l1.length : Int) then (if 0 ≤ (wrap64 ((l1.length : Int) + 1)) then (if (wrap64 ((l1.length : Int) + 1) : Int).toNat ≤ 70368744177664 then (bigint_limbs_plus_a.l0 k l0 (([] : List Int)) 0 l1 (l1.length : Int) 0) else (none)) else (none)) else (none)
theorem bigint_limbs_plus_a.mono_l : ∀ k, (∀ y0 y1 y2 y3 y4 y5, LeO (bigint_limbs_plus_a.l0 k y0 y1 y2 y3 y4 y5) (bigint_limbs_plus_a.l0 (k + 1) y0 y1 y2 y3 y4 y5))
  | 0 => fun _ _ _ _ _ _ r h => by simp [bigint_limbs_plus_a.l0] at h
  | k + 1 => by
    have ih0 := bigint_limbs_plus_a.mono_l k
    · intro y0 y1 y2 y3 y4 y5
      unfold bigint_limbs_plus_a.l0
      repeat' first
      | (with_reducible exact ih0 _ _ _ _ _ _)
      | (with_reducible exact bigint_limbs_trim.mono _ _)
      | (with_reducible exact LeO.refl _)
      | (with_reducible exact LeO.none _)
      | (with_reducible refine LeO.ite ?_ ?_)
      | (with_reducible refine LeO.bind ?_ (fun _ => ?_))
      | exact ih0 _ _ _ _ _ _
      | exact bigint_limbs_trim.mono _ _
      | exact LeO.none _
      | refine LeO.ite ?_ ?_
      | refine LeO.bind ?_ (fun _ => ?_)
theorem bigint_limbs_plus_a.mono : ∀ a0 a1 k, LeO (bigint_limbs_plus_a.f k a0 a1) (bigint_limbs_plus_a.f (k + 1) a0 a1) := by
  intro a0 a1 k
  have ih0 := bigint_limbs_plus_a.mono_l k
  unfold bigint_limbs_plus_a.f
  repeat' first
      | (with_reducible exact ih0 _ _ _ _ _ _)
      | (with_reducible exact bigint_limbs_trim.mono _ _)
      | (with_reducible exact LeO.refl _)
      | (with_reducible exact LeO.none _)
      | (with_reducible refine LeO.ite ?_ ?_)
      | (with_reducible refine LeO.bind ?_ (fun _ => ?_))
      | exact ih0 _ _ _ _ _ _
      | exact bigint_limbs_trim.mono _ _
      | exact LeO.none _
      | refine LeO.ite ?_ ?_
      | refine LeO.bind ?_ (fun _ => ?_)
def bigint_limbs_plus_b.l0 : Nat → List Int → List Int → Int → List Int → Int → Int → Option (List Int)
  | 0, _, _, _, _, _, _ => none
  | k + 1, x1, x5, x6, x20, x21, x22 => if x22 < x21 then (if 0 ≤ x22 then (if x22 < (x20.length : Int) then (if x22 < (x1.length : Int) then (if x5.length < 35184372088832 then (bigint_limbs_plus_b.l0 k x1 (x5 ++ [(IntKind.u64.wrap ((IntKind.u64.wrap (x6 + (IntKind.u64.wrap (rd x20 x22)))) + (IntKind.u64.wrap (rd x1 x22)))) % 4294967296]) ((IntKind.u64.wrap ((IntKind.u64.wrap (x6 + (IntKind.u64.wrap (rd x20 x22)))) + (IntKind.u64.wrap (rd x1 x22)))) / 4294967296) x20 x21 (wrap64 (x22 + 1))) else (none)) else (if x5.length < 35184372088832 then (bigint_limbs_plus_b.l0 k x1 (x5 ++ [(IntKind.u64.wrap (x6 + (IntKind.u64.wrap (rd x20 x22)))) % 4294967296]) ((IntKind.u64.wrap (x6 + (IntKind.u64.wrap (rd x20 x22)))) / 4294967296) x20 x21 (wrap64 (x22 + 1))) else (none))) else (none)) else (none)) else (if x5.length < 35184372088832 then ((bigint_limbs_trim.f k (x5 ++ [(x6) % 4294967296])).bind fun t201 => (some t201)) else (none))
def bigint_limbs_plus_b.f (k : Nat) (l0 : List Int) (l1 : List Int) : Option (List Int) := if (l0.length : Int) < (l1.length : Int) then (none) else (if 0 ≤ (wrap64 ((l0.length : Int) + 1)) then (if (wrap64 ((l0.length : Int) + 1) : Int).toNat ≤ 70368744177664 then (bigint_limbs_plus_b.l0 k l1 (([] : List Int)) 0 l0 (l0.length : Int) 0) else (none)) else (none))
theorem bigint_limbs_plus_b.mono_l : ∀ k, (∀ y0 y1 y2 y3 y4 y5, LeO (bigint_limbs_plus_b.l0 k y0 y1 y2 y3 y4 y5) (bigint_limbs_plus_b.l0 (k + 1) y0 y1 y2 y3 y4 y5))
  | 0 => fun _ _ _ _ _ _ r h => by simp [bigint_limbs_plus_b.l0] at h
  | k + 1 => by
    have ih0 := bigint_limbs_plus_b.mono_l k
    · intro y0 y1 y2 y3 y4 y5
      unfold bigint_limbs_plus_b.l0
      repeat' first
      | (with_reducible exact ih0 _ _ _ _ _ _)
      | (with_reducible exact bigint_limbs_trim.mono _ _)
      | (with_reducible exact LeO.refl _)
      | (with_reducible exact LeO.none _)
      | (with_reducible refine LeO.ite ?_ ?_)
      | (with_reducible refine LeO.bind ?_ (fun _ => ?_))
      | exact ih0 _ _ _ _ _ _
      | exact bigint_limbs_trim.mono _ _
      | exact LeO.none _
      | refine LeO.ite ?_ ?_
      | refine LeO.bind ?_ (fun _ => ?_)
theorem bigint_limbs_plus_b.mono : ∀ a0 a1 k, LeO (bigint_limbs_plus_b.f k a0 a1) (bigint_limbs_plus_b.f (k + 1) a0 a1) := by
  intro a0 a1 k
  have ih0 := bigint_limbs_plus_b.mono_l k
  unfold bigint_limbs_plus_b.f
  repeat' first
      | (with_reducible exact ih0 _ _ _ _ _ _)
      | (with_reducible exact bigint_limbs_trim.mono _ _)
      | (with_reducible exact LeO.refl _)
      | (with_reducible exact LeO.none _)
      | (with_reducible refine LeO.ite ?_ ?_)
      | (with_reducible refine LeO.bind ?_ (fun _ => ?_))
      | exact ih0 _ _ _ _ _ _
      | exact bigint_limbs_trim.mono _ _
      | exact LeO.none _
      | refine LeO.ite ?_ ?_
      | refine LeO.bind ?_ (fun _ => ?_)
def bigint_limbs_plus.f (k : Nat) (l0 : List Int) (l1 : List Int) : Option (List Int) := if (l0.length : Int) < (l1.length : Int) then bigint_limbs_plus_a.f k l0 l1 else bigint_limbs_plus_b.f k l0 l1
theorem bigint_limbs_plus.mono : ∀ l0 l1 k, LeO (bigint_limbs_plus.f k l0 l1) (bigint_limbs_plus.f (k + 1) l0 l1) := by
  intro l0 l1 k
  unfold bigint_limbs_plus.f
  exact LeO.ite (bigint_limbs_plus_a.mono l0 l1 k) (bigint_limbs_plus_b.mono l0 l1 k)
def bits_Sub32.f (a0 : Int) (a1 : Int) (a2 : Int) : Option (Int × Int) := some ((((a0 - a1) % 4294967296) - a2) % 4294967296, (Go.bits .or .u32 (Go.bits .and .u32 (Go.bits .xor .u32 4294967295 a0) a1) (Go.bits .and .u32 (Go.bits .xor .u32 4294967295 (Go.bits .xor .u32 a0 a1)) ((((a0 - a1) % 4294967296) - a2) % 4294967296))) / 2147483648)
def bigint_limbs_minus.l0 : Nat → List Int → List Int → Int → List Int → Int → Int → Option (List Int)
  | 0, _, _, _, _, _, _ => none
  | k + 1, x1, x5, x6, x13, x14, x15 => if x15 < x14 then (if 0 ≤ x15 then (if x15 < (x13.length : Int) then (if x15 < (x1.length : Int) then ((bits_Sub32.f (rd x13 x15) (rd x1 x15) x6).bind fun bt213 => (if x15 < (x5.length : Int) then (bigint_limbs_minus.l0 k x1 (x5.set (x15 : Int).toNat bt213.1) bt213.2 x13 x14 (wrap64 (x15 + 1))) else (none))) else ((bits_Sub32.f (rd x13 x15) 0 x6).bind fun bt216 => (if x15 < (x5.length : Int) then (bigint_limbs_minus.l0 k x1 (x5.set (x15 : Int).toNat bt216.1) bt216.2 x13 x14 (wrap64 (x15 + 1))) else (none)))) else (none)) else (none)) else ((bigint_limbs_trim.f k x5).bind fun t219 => (some t219))
def bigint_limbs_minus.f (k : Nat) (l0 : List Int) (l1 : List Int) : Option (List Int) := if 0 ≤ (l0.length : Int) then (if ((l0.length : Int) : Int).toNat ≤ 70368744177664 then (bigint_limbs_minus.l0 k l1 (List.replicate ((l0.length : Int) : Int).toNat 0) 0 l0 (l0.length : Int) 0) else (none)) else (none)
theorem bigint_limbs_minus.mono_l : ∀ k, (∀ y0 y1 y2 y3 y4 y5, LeO (bigint_limbs_minus.l0 k y0 y1 y2 y3 y4 y5) (bigint_limbs_minus.l0 (k + 1) y0 y1 y2 y3 y4 y5))
  | 0 => fun _ _ _ _ _ _ r h => by simp [bigint_limbs_minus.l0] at h
  | k + 1 => by
    have ih0 := bigint_limbs_minus.mono_l k
    · intro y0 y1 y2 y3 y4 y5
      unfold bigint_limbs_minus.l0
      repeat' first
      | (with_reducible exact ih0 _ _ _ _ _ _)
      | (with_reducible exact bigint_limbs_trim.mono _ _)
      | (with_reducible exact LeO.refl _)
      | (with_reducible exact LeO.none _)
      | (with_reducible refine LeO.ite ?_ ?_)
      | (with_reducible refine LeO.bind ?_ (fun _ => ?_))
      | exact ih0 _ _ _ _ _ _
      | exact bigint_limbs_trim.mono _ _
      | exact LeO.none _
      | refine LeO.ite ?_ ?_
      | refine LeO.bind ?_ (fun _ => ?_)
theorem bigint_limbs_minus.mono : ∀ a0 a1 k, LeO (bigint_limbs_minus.f k a0 a1) (bigint_limbs_minus.f (k + 1) a0 a1) := by
  intro a0 a1 k
  have ih0 := bigint_limbs_minus.mono_l k
  unfold bigint_limbs_minus.f
  repeat' first
      | (with_reducible exact ih0 _ _ _ _ _ _)
      | (with_reducible exact bigint_limbs_trim.mono _ _)
      | (with_reducible exact LeO.refl _)
      | (with_reducible exact LeO.none _)
      | (with_reducible refine LeO.ite ?_ ?_)
      | (with_reducible refine LeO.bind ?_ (fun _ => ?_))
      | exact ih0 _ _ _ _ _ _
      | exact bigint_limbs_trim.mono _ _
      | exact LeO.none _
      | refine LeO.ite ?_ ?_
      | refine LeO.bind ?_ (fun _ => ?_)
def bigint_limbs_muladd.l0 : Nat → Int → List Int → Int → List Int → Int → Int → Option (List Int)
  | 0, _, _, _, _, _, _ => none
  | k + 1, x1, x7, x8, x17, x18, x19 => if x19 < x18 then (if 0 ≤ x19 then (if x19 < (x17.length : Int) then (if x7.length < 35184372088832 then (bigint_limbs_muladd.l0 k x1 (x7 ++ [(IntKind.u64.wrap (x8 + (IntKind.u64.wrap ((IntKind.u64.wrap (rd x17 x19)) * (IntKind.u64.wrap (x1)))))) % 4294967296]) ((IntKind.u64.wrap (x8 + (IntKind.u64.wrap ((IntKind.u64.wrap (rd x17 x19)) * (IntKind.u64.wrap (x1)))))) / 4294967296) x17 x18 (wrap64 (x19 + 1))) else (none)) else (none)) else (none)) else (if x7.length < 35184372088832 then ((bigint_limbs_trim.f k (x7 ++ [(x8) % 4294967296])).bind fun t667 => (some t667)) else (none))
def bigint_limbs_muladd.f (k : Nat) (l0 : List Int) (a1 : Int) (a2 : Int) : Option (List Int) := if 0 ≤ (wrap64 ((l0.length : Int) + 1)) then (if (wrap64 ((l0.length : Int) + 1) : Int).toNat ≤ 70368744177664 then (bigint_limbs_muladd.l0 k a1 (([] : List Int)) (IntKind.u64.wrap (a2)) l0 (l0.length : Int) 0) else (none)) else (none)
theorem bigint_limbs_muladd.mono_l : ∀ k, (∀ y0 y1 y2 y3 y4 y5, LeO (bigint_limbs_muladd.l0 k y0 y1 y2 y3 y4 y5) (bigint_limbs_muladd.l0 (k + 1) y0 y1 y2 y3 y4 y5))
  | 0 => fun _ _ _ _ _ _ r h => by simp [bigint_limbs_muladd.l0] at h
  | k + 1 => by
    have ih0 := bigint_limbs_muladd.mono_l k
    · intro y0 y1 y2 y3 y4 y5
      unfold bigint_limbs_muladd.l0
      repeat' first
      | (with_reducible exact ih0 _ _ _ _ _ _)
      | (with_reducible exact bigint_limbs_trim.mono _ _)
      | (with_reducible exact LeO.refl _)
      | (with_reducible exact LeO.none _)
      | (with_reducible refine LeO.ite ?_ ?_)
      | (with_reducible refine LeO.bind ?_ (fun _ => ?_))
      | exact ih0 _ _ _ _ _ _
      | exact bigint_limbs_trim.mono _ _
      | exact LeO.none _
      | refine LeO.ite ?_ ?_
      | refine LeO.bind ?_ (fun _ => ?_)
theorem bigint_limbs_muladd.mono : ∀ a0 a1 a2 k, LeO (bigint_limbs_muladd.f k a0 a1 a2) (bigint_limbs_muladd.f (k + 1) a0 a1 a2) := by
  intro a0 a1 a2 k
  have ih0 := bigint_limbs_muladd.mono_l k
  unfold bigint_limbs_muladd.f
  repeat' first
      | (with_reducible exact ih0 _ _ _ _ _ _)
      | (with_reducible exact bigint_limbs_trim.mono _ _)
      | (with_reducible exact LeO.refl _)
      | (with_reducible exact LeO.none _)
      | (with_reducible refine LeO.ite ?_ ?_)
      | (with_reducible refine LeO.bind ?_ (fun _ => ?_))
      | exact ih0 _ _ _ _ _ _
      | exact bigint_limbs_trim.mono _ _
      | exact LeO.none _
      | refine LeO.ite ?_ ?_
      | refine LeO.bind ?_ (fun _ => ?_)
def bigint_limbs_unshift.l0 : Nat → List Int → Int → List Int → Int → Int → Option (List Int)
  | 0, _, _, _, _, _ => none
  | k + 1, x0, x1, x5, x12, x13 => if x13 < x12 then (if 0 ≤ x13 then (if x13 < (x0.length : Int) then (if (wrap64 (x13 + 1)) < (x0.length : Int) then (if 0 ≤ (wrap64 (x13 + 1)) then (if 0 ≤ x1 then (if x13 < (x5.length : Int) then (bigint_limbs_unshift.l0 k x0 x1 (x5.set (x13 : Int).toNat ((shr .u64 (Go.bits .or .u64 (IntKind.u64.wrap (rd x0 x13)) (IntKind.u64.wrap ((IntKind.u64.wrap (rd x0 (wrap64 (x13 + 1)))) * 4294967296))) x1) % 4294967296)) x12 (wrap64 (x13 + 1))) else (none)) else (none)) else (none)) else (if 0 ≤ x1 then (if x13 < (x5.length : Int) then (bigint_limbs_unshift.l0 k x0 x1 (x5.set (x13 : Int).toNat ((shr .u64 (IntKind.u64.wrap (rd x0 x13)) x1) % 4294967296)) x12 (wrap64 (x13 + 1))) else (none)) else (none))) else (none)) else (none)) else ((bigint_limbs_trim.f k x5).bind fun t265 => (some t265))
def bigint_limbs_unshift.f (k : Nat) (l0 : List Int) (a1 : Int) : Option (List Int) := if 0 ≤ (l0.length : Int) then (if ((l0.length : Int) : Int).toNat ≤ 70368744177664 then (bigint_limbs_unshift.l0 k l0 a1 (List.replicate ((l0.length : Int) : Int).toNat 0) (l0.length : Int) 0) else (none)) else (none)
theorem bigint_limbs_unshift.mono_l : ∀ k, (∀ y0 y1 y2 y3 y4, LeO (bigint_limbs_unshift.l0 k y0 y1 y2 y3 y4) (bigint_limbs_unshift.l0 (k + 1) y0 y1 y2 y3 y4))
  | 0 => fun _ _ _ _ _ r h => by simp [bigint_limbs_unshift.l0] at h
  | k + 1 => by
    have ih0 := bigint_limbs_unshift.mono_l k
    · intro y0 y1 y2 y3 y4
      unfold bigint_limbs_unshift.l0
      repeat' first
      | (with_reducible exact ih0 _ _ _ _ _)
      | (with_reducible exact bigint_limbs_trim.mono _ _)
      | (with_reducible exact LeO.refl _)
      | (with_reducible exact LeO.none _)
      | (with_reducible refine LeO.ite ?_ ?_)
      | (with_reducible refine LeO.bind ?_ (fun _ => ?_))
      | exact ih0 _ _ _ _ _
      | exact bigint_limbs_trim.mono _ _
      | exact LeO.none _
      | refine LeO.ite ?_ ?_
      | refine LeO.bind ?_ (fun _ => ?_)
theorem bigint_limbs_unshift.mono : ∀ a0 a1 k, LeO (bigint_limbs_unshift.f k a0 a1) (bigint_limbs_unshift.f (k + 1) a0 a1) := by
  intro a0 a1 k
  have ih0 := bigint_limbs_unshift.mono_l k
  unfold bigint_limbs_unshift.f
  repeat' first
      | (with_reducible exact ih0 _ _ _ _ _)
      | (with_reducible exact bigint_limbs_trim.mono _ _)
      | (with_reducible exact LeO.refl _)
      | (with_reducible exact LeO.none _)
      | (with_reducible refine LeO.ite ?_ ?_)
      | (with_reducible refine LeO.bind ?_ (fun _ => ?_))
      | exact ih0 _ _ _ _ _
      | exact bigint_limbs_trim.mono _ _
      | exact LeO.none _
      | refine LeO.ite ?_ ?_
      | refine LeO.bind ?_ (fun _ => ?_)
def bits_Div32.f (a0 : Int) (a1 : Int) (a2 : Int) : Option (Int × Int) := if a2 = 0 then (if (IntKind.u64.wrap (a2)) = 0 then (none) else (some ((IntKind.u64.wrap (Int.tdiv (Go.bits .or .u64 (IntKind.u64.wrap ((IntKind.u64.wrap (a0)) * 4294967296)) (IntKind.u64.wrap (a1))) (IntKind.u64.wrap (a2)))) % 4294967296, (Int.tmod (Go.bits .or .u64 (IntKind.u64.wrap ((IntKind.u64.wrap (a0)) * 4294967296)) (IntKind.u64.wrap (a1))) (IntKind.u64.wrap (a2))) % 4294967296))) else (if a2 ≤ a0 then (none) else (if (IntKind.u64.wrap (a2)) = 0 then (none) else (some ((IntKind.u64.wrap (Int.tdiv (Go.bits .or .u64 (IntKind.u64.wrap ((IntKind.u64.wrap (a0)) * 4294967296)) (IntKind.u64.wrap (a1))) (IntKind.u64.wrap (a2)))) % 4294967296, (Int.tmod (Go.bits .or .u64 (IntKind.u64.wrap ((IntKind.u64.wrap (a0)) * 4294967296)) (IntKind.u64.wrap (a1))) (IntKind.u64.wrap (a2))) % 4294967296))))
def bigint_limbs_short.l0 : Nat → List Int → Int → List Int → Int → Int → Option (List Int × Int)
  | 0, _, _, _, _, _ => none
  | k + 1, x0, x1, x6, x7, x8 => if x8 ≥ 0 then (if 0 ≤ x8 then (if x8 < (x0.length : Int) then ((bits_Div32.f x7 (rd x0 x8) x1).bind fun bt272 => (if x8 < (x6.length : Int) then (bigint_limbs_short.l0 k x0 x1 (x6.set (x8 : Int).toNat bt272.1) bt272.2 (wrap64 (x8 - 1))) else (none))) else (none)) else (none)) else ((bigint_limbs_trim.f k x6).bind fun t275 => (some (t275, x7)))
def bigint_limbs_short.f (k : Nat) (l0 : List Int) (a1 : Int) : Option (List Int × Int) := if 0 ≤ (l0.length : Int) then (if ((l0.length : Int) : Int).toNat ≤ 70368744177664 then (bigint_limbs_short.l0 k l0 a1 (List.replicate ((l0.length : Int) : Int).toNat 0) 0 (wrap64 ((l0.length : Int) - 1))) else (none)) else (none)
theorem bigint_limbs_short.mono_l : ∀ k, (∀ y0 y1 y2 y3 y4, LeO (bigint_limbs_short.l0 k y0 y1 y2 y3 y4) (bigint_limbs_short.l0 (k + 1) y0 y1 y2 y3 y4))
  | 0 => fun _ _ _ _ _ r h => by simp [bigint_limbs_short.l0] at h
  | k + 1 => by
    have ih0 := bigint_limbs_short.mono_l k
    · intro y0 y1 y2 y3 y4
      unfold bigint_limbs_short.l0
      repeat' first
      | (with_reducible exact ih0 _ _ _ _ _)
      | (with_reducible exact bigint_limbs_trim.mono _ _)
      | (with_reducible exact LeO.refl _)
      | (with_reducible exact LeO.none _)
      | (with_reducible refine LeO.ite ?_ ?_)
      | (with_reducible refine LeO.bind ?_ (fun _ => ?_))
      | exact ih0 _ _ _ _ _
      | exact bigint_limbs_trim.mono _ _
      | exact LeO.none _
      | refine LeO.ite ?_ ?_
      | refine LeO.bind ?_ (fun _ => ?_)
theorem bigint_limbs_short.mono : ∀ a0 a1 k, LeO (bigint_limbs_short.f k a0 a1) (bigint_limbs_short.f (k + 1) a0 a1) := by
  intro a0 a1 k
  have ih0 := bigint_limbs_short.mono_l k
  unfold bigint_limbs_short.f
  repeat' first
      | (with_reducible exact ih0 _ _ _ _ _)
      | (with_reducible exact bigint_limbs_trim.mono _ _)
      | (with_reducible exact LeO.refl _)
      | (with_reducible exact LeO.none _)
      | (with_reducible refine LeO.ite ?_ ?_)
      | (with_reducible refine LeO.bind ?_ (fun _ => ?_))
      | exact ih0 _ _ _ _ _
      | exact bigint_limbs_trim.mono _ _
      | exact LeO.none _
      | refine LeO.ite ?_ ?_
      | refine LeO.bind ?_ (fun _ => ?_)
def bits_Len32.f (a0 : Int) : Option (Int) := if a0 ≥ 65536 then (if (a0 / 65536) ≥ 256 then (if 0 ≤ (((a0 / 65536) / 256) % 256) then (if (((a0 / 65536) / 256) % 256) < 256 then (some (wrap64 ((16 + 8) + (wrap64 (bt (⟨#[0, 1, 2, 2, 3, 3, 3, 3, 4, 4, 4, 4, 4, 4, 4, 4, 5, 5, 5, 5, 5, 5, 5, 5, 5, 5, 5, 5, 5, 5, 5, 5, 6, 6, 6, 6, 6, 6, 6, 6, 6, 6, 6, 6, 6, 6, 6, 6, 6, 6, 6, 6, 6, 6, 6, 6, 6, 6, 6, 6, 6, 6, 6, 6, 7, 7, 7, 7, 7, 7, 7, 7, 7, 7, 7, 7, 7, 7, 7, 7, 7, 7, 7, 7, 7, 7, 7, 7, 7, 7, 7, 7, 7, 7, 7, 7, 7, 7, 7, 7, 7, 7, 7, 7, 7, 7, 7, 7, 7, 7, 7, 7, 7, 7, 7, 7, 7, 7, 7, 7, 7, 7, 7, 7, 7, 7, 7, 7, 8, 8, 8, 8, 8, 8, 8, 8, 8, 8, 8, 8, 8, 8, 8, 8, 8, 8, 8, 8, 8, 8, 8, 8, 8, 8, 8, 8, 8, 8, 8, 8, 8, 8, 8, 8, 8, 8, 8, 8, 8, 8, 8, 8, 8, 8, 8, 8, 8, 8, 8, 8, 8, 8, 8, 8, 8, 8, 8, 8, 8, 8, 8, 8, 8, 8, 8, 8, 8, 8, 8, 8, 8, 8, 8, 8, 8, 8, 8, 8, 8, 8, 8, 8, 8, 8, 8, 8, 8, 8, 8, 8, 8, 8, 8, 8, 8, 8, 8, 8, 8, 8, 8, 8, 8, 8, 8, 8, 8, 8, 8, 8, 8, 8, 8, 8, 8, 8, 8, 8, 8, 8, 8, 8, 8, 8, 8, 8]⟩ : ByteArray) (((a0 / 65536) / 256) % 256)))))) else (none)) else (none)) else (if 0 ≤ ((a0 / 65536) % 256) then (if ((a0 / 65536) % 256) < 256 then (some (wrap64 (16 + (wrap64 (bt (⟨#[0, 1, 2, 2, 3, 3, 3, 3, 4, 4, 4, 4, 4, 4, 4, 4, 5, 5, 5, 5, 5, 5, 5, 5, 5, 5, 5, 5, 5, 5, 5, 5, 6, 6, 6, 6, 6, 6, 6, 6, 6, 6, 6, 6, 6, 6, 6, 6, 6, 6, 6, 6, 6, 6, 6, 6, 6, 6, 6, 6, 6, 6, 6, 6, 7, 7, 7, 7, 7, 7, 7, 7, 7, 7, 7, 7, 7, 7, 7, 7, 7, 7, 7, 7, 7, 7, 7, 7, 7, 7, 7, 7, 7, 7, 7, 7, 7, 7, 7, 7, 7, 7, 7, 7, 7, 7, 7, 7, 7, 7, 7, 7, 7, 7, 7, 7, 7, 7, 7, 7, 7, 7, 7, 7, 7, 7, 7, 7, 8, 8, 8, 8, 8, 8, 8, 8, 8, 8, 8, 8, 8, 8, 8, 8, 8, 8, 8, 8, 8, 8, 8, 8, 8, 8, 8, 8, 8, 8, 8, 8, 8, 8, 8, 8, 8, 8, 8, 8, 8, 8, 8, 8, 8, 8, 8, 8, 8, 8, 8, 8, 8, 8, 8, 8, 8, 8, 8, 8, 8, 8, 8, 8, 8, 8, 8, 8, 8, 8, 8, 8, 8, 8, 8, 8, 8, 8, 8, 8, 8, 8, 8, 8, 8, 8, 8, 8, 8, 8, 8, 8, 8, 8, 8, 8, 8, 8, 8, 8, 8, 8, 8, 8, 8, 8, 8, 8, 8, 8, 8, 8, 8, 8, 8, 8, 8, 8, 8, 8, 8, 8, 8, 8, 8, 8, 8, 8]⟩ : ByteArray) ((a0 / 65536) % 256)))))) else (none)) else (none))) else (if a0 ≥ 256 then (if 0 ≤ ((a0 / 256) % 256) then (if ((a0 / 256) % 256) < 256 then (some (wrap64 ((0 + 8) + (wrap64 (bt (⟨#[0, 1, 2, 2, 3, 3, 3, 3, 4, 4, 4, 4, 4, 4, 4, 4, 5, 5, 5, 5, 5, 5, 5, 5, 5, 5, 5, 5, 5, 5, 5, 5, 6, 6, 6, 6, 6, 6, 6, 6, 6, 6, 6, 6, 6, 6, 6, 6, 6, 6, 6, 6, 6, 6, 6, 6, 6, 6, 6, 6, 6, 6, 6, 6, 7, 7, 7, 7, 7, 7, 7, 7, 7, 7, 7, 7, 7, 7, 7, 7, 7, 7, 7, 7, 7, 7, 7, 7, 7, 7, 7, 7, 7, 7, 7, 7, 7, 7, 7, 7, 7, 7, 7, 7, 7, 7, 7, 7, 7, 7, 7, 7, 7, 7, 7, 7, 7, 7, 7, 7, 7, 7, 7, 7, 7, 7, 7, 7, 8, 8, 8, 8, 8, 8, 8, 8, 8, 8, 8, 8, 8, 8, 8, 8, 8, 8, 8, 8, 8, 8, 8, 8, 8, 8, 8, 8, 8, 8, 8, 8, 8, 8, 8, 8, 8, 8, 8, 8, 8, 8, 8, 8, 8, 8, 8, 8, 8, 8, 8, 8, 8, 8, 8, 8, 8, 8, 8, 8, 8, 8, 8, 8, 8, 8, 8, 8, 8, 8, 8, 8, 8, 8, 8, 8, 8, 8, 8, 8, 8, 8, 8, 8, 8, 8, 8, 8, 8, 8, 8, 8, 8, 8, 8, 8, 8, 8, 8, 8, 8, 8, 8, 8, 8, 8, 8, 8, 8, 8, 8, 8, 8, 8, 8, 8, 8, 8, 8, 8, 8, 8, 8, 8, 8, 8, 8, 8]⟩ : ByteArray) ((a0 / 256) % 256)))))) else (none)) else (none)) else (if 0 ≤ ((a0) % 256) then (if ((a0) % 256) < 256 then (some (wrap64 (0 + (wrap64 (bt (⟨#[0, 1, 2, 2, 3, 3, 3, 3, 4, 4, 4, 4, 4, 4, 4, 4, 5, 5, 5, 5, 5, 5, 5, 5, 5, 5, 5, 5, 5, 5, 5, 5, 6, 6, 6, 6, 6, 6, 6, 6, 6, 6, 6, 6, 6, 6, 6, 6, 6, 6, 6, 6, 6, 6, 6, 6, 6, 6, 6, 6, 6, 6, 6, 6, 7, 7, 7, 7, 7, 7, 7, 7, 7, 7, 7, 7, 7, 7, 7, 7, 7, 7, 7, 7, 7, 7, 7, 7, 7, 7, 7, 7, 7, 7, 7, 7, 7, 7, 7, 7, 7, 7, 7, 7, 7, 7, 7, 7, 7, 7, 7, 7, 7, 7, 7, 7, 7, 7, 7, 7, 7, 7, 7, 7, 7, 7, 7, 7, 8, 8, 8, 8, 8, 8, 8, 8, 8, 8, 8, 8, 8, 8, 8, 8, 8, 8, 8, 8, 8, 8, 8, 8, 8, 8, 8, 8, 8, 8, 8, 8, 8, 8, 8, 8, 8, 8, 8, 8, 8, 8, 8, 8, 8, 8, 8, 8, 8, 8, 8, 8, 8, 8, 8, 8, 8, 8, 8, 8, 8, 8, 8, 8, 8, 8, 8, 8, 8, 8, 8, 8, 8, 8, 8, 8, 8, 8, 8, 8, 8, 8, 8, 8, 8, 8, 8, 8, 8, 8, 8, 8, 8, 8, 8, 8, 8, 8, 8, 8, 8, 8, 8, 8, 8, 8, 8, 8, 8, 8, 8, 8, 8, 8, 8, 8, 8, 8, 8, 8, 8, 8, 8, 8, 8, 8, 8, 8]⟩ : ByteArray) ((a0) % 256)))))) else (none)) else (none)))
def bits_LeadingZeros32.f (a0 : Int) : Option (Int) := (bits_Len32.f a0).bind fun t278 => (some (wrap64 (32 - t278)))
def bigint_limbs_shift.l0 : Nat → Int → List Int → List Int → Int → Int → Option (List Int)
  | 0, _, _, _, _, _ => none
  | k + 1, x1, x5, x13, x14, x15 => if x15 < x14 then (if 0 ≤ x15 then (if x15 < (x13.length : Int) then (if 0 ≤ x1 then (if x15 < (x5.length : Int) then (if 0 ≤ (wrap64 (x15 + 1)) then (if (wrap64 (x15 + 1)) < (x5.length : Int) then (bigint_limbs_shift.l0 k x1 ((x5.set (x15 : Int).toNat (Go.bits .or .u32 (rd x5 x15) ((shl .u64 (IntKind.u64.wrap (rd x13 x15)) x1) % 4294967296))).set ((wrap64 (x15 + 1)) : Int).toNat (((shl .u64 (IntKind.u64.wrap (rd x13 x15)) x1) / 4294967296) % 4294967296)) x13 x14 (wrap64 (x15 + 1))) else (none)) else (none)) else (none)) else (none)) else (none)) else (none)) else (some x5)
def bigint_limbs_shift.f (k : Nat) (l0 : List Int) (a1 : Int) : Option (List Int) := if 0 ≤ (wrap64 ((l0.length : Int) + 1)) then (if (wrap64 ((l0.length : Int) + 1) : Int).toNat ≤ 70368744177664 then (bigint_limbs_shift.l0 k a1 (List.replicate (wrap64 ((l0.length : Int) + 1) : Int).toNat 0) l0 (l0.length : Int) 0) else (none)) else (none)
theorem bigint_limbs_shift.mono_l : ∀ k, (∀ y0 y1 y2 y3 y4, LeO (bigint_limbs_shift.l0 k y0 y1 y2 y3 y4) (bigint_limbs_shift.l0 (k + 1) y0 y1 y2 y3 y4))
  | 0 => fun _ _ _ _ _ r h => by simp [bigint_limbs_shift.l0] at h
  | k + 1 => by
    have ih0 := bigint_limbs_shift.mono_l k
    · intro y0 y1 y2 y3 y4
      unfold bigint_limbs_shift.l0
      repeat' first
      | (with_reducible exact ih0 _ _ _ _ _)
      | (with_reducible exact LeO.refl _)
      | (with_reducible exact LeO.none _)
      | (with_reducible refine LeO.ite ?_ ?_)
      | (with_reducible refine LeO.bind ?_ (fun _ => ?_))
      | exact ih0 _ _ _ _ _
      | exact LeO.none _
      | refine LeO.ite ?_ ?_
      | refine LeO.bind ?_ (fun _ => ?_)
theorem bigint_limbs_shift.mono : ∀ a0 a1 k, LeO (bigint_limbs_shift.f k a0 a1) (bigint_limbs_shift.f (k + 1) a0 a1) := by
  intro a0 a1 k
  have ih0 := bigint_limbs_shift.mono_l k
  unfold bigint_limbs_shift.f
  repeat' first
      | (with_reducible exact ih0 _ _ _ _ _)
      | (with_reducible exact LeO.refl _)
      | (with_reducible exact LeO.none _)
      | (with_reducible refine LeO.ite ?_ ?_)
      | (with_reducible refine LeO.bind ?_ (fun _ => ?_))
      | exact ih0 _ _ _ _ _
      | exact LeO.none _
      | refine LeO.ite ?_ ?_
      | refine LeO.bind ?_ (fun _ => ?_)
def bits_Add32.f (a0 : Int) (a1 : Int) (a2 : Int) : Option (Int × Int) := some ((IntKind.u64.wrap ((IntKind.u64.wrap ((IntKind.u64.wrap (a0)) + (IntKind.u64.wrap (a1)))) + (IntKind.u64.wrap (a2)))) % 4294967296, ((IntKind.u64.wrap ((IntKind.u64.wrap ((IntKind.u64.wrap (a0)) + (IntKind.u64.wrap (a1)))) + (IntKind.u64.wrap (a2)))) / 4294967296) % 4294967296)
def bigint_limbs_size.f (l0 : List Int) : Option (Int) := if (l0.length : Int) = 0 then (some 0) else (if 0 ≤ (wrap64 ((l0.length : Int) - 1)) then (if (wrap64 ((l0.length : Int) - 1)) < (l0.length : Int) then ((bits_Len32.f (rd l0 (wrap64 ((l0.length : Int) - 1)))).bind fun t376 => (some (wrap64 ((wrap64 (32 * (wrap64 ((l0.length : Int) - 1)))) + t376)))) else (none)) else (none))
mutual
def bigint_limbs_digit.j2 : Nat → List Int → List Int → Int → Int → Int → Option (Int × List Int)
  | 0, _, _, _, _, _ => none
  | k + 1, x0, x1, x2, x7, x9 => bigint_limbs_digit.l1 k x0 x1 x2 x7 x9 0 0 x1 (x1.length : Int) 0
def bigint_limbs_digit.l1 : Nat → List Int → List Int → Int → Int → Int → Int → Int → List Int → Int → Int → Option (Int × List Int)
  | 0, _, _, _, _, _, _, _, _, _, _ => none
  | k + 1, x0, x1, x2, x7, x9, x11, x12, x101, x102, x103 => if x103 < x102 then (if 0 ≤ x103 then (if x103 < (x101.length : Int) then (if 0 ≤ (wrap64 (x2 + x103)) then (if (wrap64 (x2 + x103)) < (x0.length : Int) then ((bits_Sub32.f (rd x0 (wrap64 (x2 + x103))) ((IntKind.u64.wrap (x11 + (IntKind.u64.wrap (x9 * (IntKind.u64.wrap (rd x101 x103)))))) % 4294967296) x12).bind fun bt295 => (bigint_limbs_digit.l1 k (x0.set ((wrap64 (x2 + x103)) : Int).toNat bt295.1) x1 x2 x7 x9 ((IntKind.u64.wrap (x11 + (IntKind.u64.wrap (x9 * (IntKind.u64.wrap (rd x101 x103)))))) / 4294967296) bt295.2 x101 x102 (wrap64 (x103 + 1)))) else (none)) else (none)) else (none)) else (none)) else (if 0 ≤ (wrap64 (x2 + x7)) then (if (wrap64 (x2 + x7)) < (x0.length : Int) then ((bits_Sub32.f (rd x0 (wrap64 (x2 + x7))) ((x11) % 4294967296) x12).bind fun bt299 => ((some (x0.set ((wrap64 (x2 + x7)) : Int).toNat bt299.1 : List Int)).bind fun y301 => (if bt299.2 = 0 then (some ((x9) % 4294967296, y301)) else (bigint_limbs_digit.l2 k y301 x2 x7 x9 0 x1 (x1.length : Int) 0)))) else (none)) else (none))
def bigint_limbs_digit.l2 : Nat → List Int → Int → Int → Int → Int → List Int → Int → Int → Option (Int × List Int)
  | 0, _, _, _, _, _, _, _, _ => none
  | k + 1, x0, x2, x7, x9, x15, x157, x158, x159 => if x159 < x158 then (if 0 ≤ x159 then (if x159 < (x157.length : Int) then (if 0 ≤ (wrap64 (x2 + x159)) then (if (wrap64 (x2 + x159)) < (x0.length : Int) then ((bits_Add32.f (rd x0 (wrap64 (x2 + x159))) (rd x157 x159) x15).bind fun bt304 => (bigint_limbs_digit.l2 k (x0.set ((wrap64 (x2 + x159)) : Int).toNat bt304.1) x2 x7 x9 bt304.2 x157 x158 (wrap64 (x159 + 1)))) else (none)) else (none)) else (none)) else (none)) else (if 0 ≤ (wrap64 (x2 + x7)) then (if (wrap64 (x2 + x7)) < (x0.length : Int) then (some ((IntKind.u64.wrap (x9 - 1)) % 4294967296, (x0.set ((wrap64 (x2 + x7)) : Int).toNat (((rd x0 (wrap64 (x2 + x7))) + x15) % 4294967296)))) else (none)) else (none))
def bigint_limbs_digit.l0 : Nat → List Int → List Int → Int → Int → Int → Int → Option (Int × List Int)
  | 0, _, _, _, _, _, _ => none
  | k + 1, x0, x1, x2, x7, x9, x10 => if (x9 / 4294967296) > 0 then (bigint_limbs_digit.j1 k x0 x1 x2 x7 x9 x10 true) else (if (x10 / 4294967296) = 0 then (if 0 ≤ (wrap64 (x7 - 2)) then (if (wrap64 (x7 - 2)) < (x1.length : Int) then (if 0 ≤ (wrap64 ((wrap64 (x2 + x7)) - 2)) then (if (wrap64 ((wrap64 (x2 + x7)) - 2)) < (x0.length : Int) then (bigint_limbs_digit.j1 k x0 x1 x2 x7 x9 x10 (decide ((IntKind.u64.wrap (x9 * (IntKind.u64.wrap (rd x1 (wrap64 (x7 - 2)))))) > (Go.bits .or .u64 (IntKind.u64.wrap (x10 * 4294967296)) (IntKind.u64.wrap (rd x0 (wrap64 ((wrap64 (x2 + x7)) - 2)))))))) else (none)) else (none)) else (none)) else (none)) else (bigint_limbs_digit.j1 k x0 x1 x2 x7 x9 x10 false))
def bigint_limbs_digit.j1 : Nat → List Int → List Int → Int → Int → Int → Int → Bool → Option (Int × List Int)
  | 0, _, _, _, _, _, _, _ => none
  | k + 1, x0, x1, x2, x7, x9, x10, x82 => if x82 = true then (if 0 ≤ (wrap64 (x7 - 1)) then (if (wrap64 (x7 - 1)) < (x1.length : Int) then (if ((IntKind.u64.wrap (x10 + (IntKind.u64.wrap (rd x1 (wrap64 (x7 - 1)))))) / 4294967296) > 0 then (if ((IntKind.u64.wrap (x9 - 1)) / 4294967296) = 0 then (bigint_limbs_digit.j2 k x0 x1 x2 x7 (IntKind.u64.wrap (x9 - 1))) else (bigint_limbs_digit.l0 k x0 x1 x2 x7 (IntKind.u64.wrap (x9 - 1)) (IntKind.u64.wrap (x10 + (IntKind.u64.wrap (rd x1 (wrap64 (x7 - 1)))))))) else (bigint_limbs_digit.l0 k x0 x1 x2 x7 (IntKind.u64.wrap (x9 - 1)) (IntKind.u64.wrap (x10 + (IntKind.u64.wrap (rd x1 (wrap64 (x7 - 1)))))))) else (none)) else (none)) else (bigint_limbs_digit.j2 k x0 x1 x2 x7 x9)
end
def bigint_limbs_digit.f (k : Nat) (l0 : List Int) (l1 : List Int) (a2 : Int) : Option (Int × List Int) := if 0 ≤ (wrap64 (a2 + (l1.length : Int))) then (if (wrap64 (a2 + (l1.length : Int))) < (l0.length : Int) then (if 0 ≤ (wrap64 ((wrap64 (a2 + (l1.length : Int))) - 1)) then (if (wrap64 ((wrap64 (a2 + (l1.length : Int))) - 1)) < (l0.length : Int) then (if 0 ≤ (wrap64 ((l1.length : Int) - 1)) then (if (wrap64 ((l1.length : Int) - 1)) < (l1.length : Int) then (if (IntKind.u64.wrap (rd l1 (wrap64 ((l1.length : Int) - 1)))) = 0 then (none) else (bigint_limbs_digit.l0 k l0 l1 a2 (l1.length : Int) (IntKind.u64.wrap (Int.tdiv (Go.bits .or .u64 (IntKind.u64.wrap ((IntKind.u64.wrap (rd l0 (wrap64 (a2 + (l1.length : Int))))) * 4294967296)) (IntKind.u64.wrap (rd l0 (wrap64 ((wrap64 (a2 + (l1.length : Int))) - 1))))) (IntKind.u64.wrap (rd l1 (wrap64 ((l1.length : Int) - 1)))))) (Int.tmod (Go.bits .or .u64 (IntKind.u64.wrap ((IntKind.u64.wrap (rd l0 (wrap64 (a2 + (l1.length : Int))))) * 4294967296)) (IntKind.u64.wrap (rd l0 (wrap64 ((wrap64 (a2 + (l1.length : Int))) - 1))))) (IntKind.u64.wrap (rd l1 (wrap64 ((l1.length : Int) - 1))))))) else (none)) else (none)) else (none)) else (none)) else (none)) else (none)
theorem bigint_limbs_digit.mono_l : ∀ k, (∀ y0 y1 y2 y3 y4, LeO (bigint_limbs_digit.j2 k y0 y1 y2 y3 y4) (bigint_limbs_digit.j2 (k + 1) y0 y1 y2 y3 y4)) ∧ (∀ y0 y1 y2 y3 y4 y5 y6 y7 y8 y9, LeO (bigint_limbs_digit.l1 k y0 y1 y2 y3 y4 y5 y6 y7 y8 y9) (bigint_limbs_digit.l1 (k + 1) y0 y1 y2 y3 y4 y5 y6 y7 y8 y9)) ∧ (∀ y0 y1 y2 y3 y4 y5 y6 y7, LeO (bigint_limbs_digit.l2 k y0 y1 y2 y3 y4 y5 y6 y7) (bigint_limbs_digit.l2 (k + 1) y0 y1 y2 y3 y4 y5 y6 y7)) ∧ (∀ y0 y1 y2 y3 y4 y5, LeO (bigint_limbs_digit.l0 k y0 y1 y2 y3 y4 y5) (bigint_limbs_digit.l0 (k + 1) y0 y1 y2 y3 y4 y5)) ∧ (∀ y0 y1 y2 y3 y4 y5 y6, LeO (bigint_limbs_digit.j1 k y0 y1 y2 y3 y4 y5 y6) (bigint_limbs_digit.j1 (k + 1) y0 y1 y2 y3 y4 y5 y6))
  | 0 => ⟨fun _ _ _ _ _ r h => by simp [bigint_limbs_digit.j2] at h, fun _ _ _ _ _ _ _ _ _ _ r h => by simp [bigint_limbs_digit.l1] at h, fun _ _ _ _ _ _ _ _ r h => by simp [bigint_limbs_digit.l2] at h, fun _ _ _ _ _ _ r h => by simp [bigint_limbs_digit.l0] at h, fun _ _ _ _ _ _ _ r h => by simp [bigint_limbs_digit.j1] at h⟩
  | k + 1 => by
    obtain ⟨ih0, ih1, ih2, ih3, ih4⟩ := bigint_limbs_digit.mono_l k
    refine ⟨?_, ?_, ?_, ?_, ?_⟩
    · intro y0 y1 y2 y3 y4
      unfold bigint_limbs_digit.j2
      repeat' first
      | (with_reducible exact ih0 _ _ _ _ _)
      | (with_reducible exact ih1 _ _ _ _ _ _ _ _ _ _)
      | (with_reducible exact ih2 _ _ _ _ _ _ _ _)
      | (with_reducible exact ih3 _ _ _ _ _ _)
      | (with_reducible exact ih4 _ _ _ _ _ _ _)
      | (with_reducible exact LeO.refl _)
      | (with_reducible exact LeO.none _)
      | (with_reducible refine LeO.ite ?_ ?_)
      | (with_reducible refine LeO.bind ?_ (fun _ => ?_))
      | exact ih0 _ _ _ _ _
      | exact ih1 _ _ _ _ _ _ _ _ _ _
      | exact ih2 _ _ _ _ _ _ _ _
      | exact ih3 _ _ _ _ _ _
      | exact ih4 _ _ _ _ _ _ _
      | exact LeO.none _
      | refine LeO.ite ?_ ?_
      | refine LeO.bind ?_ (fun _ => ?_)
    · intro y0 y1 y2 y3 y4 y5 y6 y7 y8 y9
      unfold bigint_limbs_digit.l1
      repeat' first
      | (with_reducible exact ih0 _ _ _ _ _)
      | (with_reducible exact ih1 _ _ _ _ _ _ _ _ _ _)
      | (with_reducible exact ih2 _ _ _ _ _ _ _ _)
      | (with_reducible exact ih3 _ _ _ _ _ _)
      | (with_reducible exact ih4 _ _ _ _ _ _ _)
      | (with_reducible exact LeO.refl _)
      | (with_reducible exact LeO.none _)
      | (with_reducible refine LeO.ite ?_ ?_)
      | (with_reducible refine LeO.bind ?_ (fun _ => ?_))
      | exact ih0 _ _ _ _ _
      | exact ih1 _ _ _ _ _ _ _ _ _ _
      | exact ih2 _ _ _ _ _ _ _ _
      | exact ih3 _ _ _ _ _ _
      | exact ih4 _ _ _ _ _ _ _
      | exact LeO.none _
      | refine LeO.ite ?_ ?_
      | refine LeO.bind ?_ (fun _ => ?_)
    · intro y0 y1 y2 y3 y4 y5 y6 y7
      unfold bigint_limbs_digit.l2
      repeat' first
      | (with_reducible exact ih0 _ _ _ _ _)
      | (with_reducible exact ih1 _ _ _ _ _ _ _ _ _ _)
      | (with_reducible exact ih2 _ _ _ _ _ _ _ _)
      | (with_reducible exact ih3 _ _ _ _ _ _)
      | (with_reducible exact ih4 _ _ _ _ _ _ _)
      | (with_reducible exact LeO.refl _)
      | (with_reducible exact LeO.none _)
      | (with_reducible refine LeO.ite ?_ ?_)
      | (with_reducible refine LeO.bind ?_ (fun _ => ?_))
      | exact ih0 _ _ _ _ _
      | exact ih1 _ _ _ _ _ _ _ _ _ _
      | exact ih2 _ _ _ _ _ _ _ _
      | exact ih3 _ _ _ _ _ _
      | exact ih4 _ _ _ _ _ _ _
      | exact LeO.none _
      | refine LeO.ite ?_ ?_
      | refine LeO.bind ?_ (fun _ => ?_)
    · intro y0 y1 y2 y3 y4 y5
      unfold bigint_limbs_digit.l0
      repeat' first
      | (with_reducible exact ih0 _ _ _ _ _)
      | (with_reducible exact ih1 _ _ _ _ _ _ _ _ _ _)
      | (with_reducible exact ih2 _ _ _ _ _ _ _ _)
      | (with_reducible exact ih3 _ _ _ _ _ _)
      | (with_reducible exact ih4 _ _ _ _ _ _ _)
      | (with_reducible exact LeO.refl _)
      | (with_reducible exact LeO.none _)
      | (with_reducible refine LeO.ite ?_ ?_)
      | (with_reducible refine LeO.bind ?_ (fun _ => ?_))
      | exact ih0 _ _ _ _ _
      | exact ih1 _ _ _ _ _ _ _ _ _ _
      | exact ih2 _ _ _ _ _ _ _ _
      | exact ih3 _ _ _ _ _ _
      | exact ih4 _ _ _ _ _ _ _
      | exact LeO.none _
      | refine LeO.ite ?_ ?_
      | refine LeO.bind ?_ (fun _ => ?_)
    · intro y0 y1 y2 y3 y4 y5 y6
      unfold bigint_limbs_digit.j1
      repeat' first
      | (with_reducible exact ih0 _ _ _ _ _)
      | (with_reducible exact ih1 _ _ _ _ _ _ _ _ _ _)
      | (with_reducible exact ih2 _ _ _ _ _ _ _ _)
      | (with_reducible exact ih3 _ _ _ _ _ _)
      | (with_reducible exact ih4 _ _ _ _ _ _ _)
      | (with_reducible exact LeO.refl _)
      | (with_reducible exact LeO.none _)
      | (with_reducible refine LeO.ite ?_ ?_)
      | (with_reducible refine LeO.bind ?_ (fun _ => ?_))
      | exact ih0 _ _ _ _ _
      | exact ih1 _ _ _ _ _ _ _ _ _ _
      | exact ih2 _ _ _ _ _ _ _ _
      | exact ih3 _ _ _ _ _ _
      | exact ih4 _ _ _ _ _ _ _
      | exact LeO.none _
      | refine LeO.ite ?_ ?_
      | refine LeO.bind ?_ (fun _ => ?_)
theorem bigint_limbs_digit.mono : ∀ a0 a1 a2 k, LeO (bigint_limbs_digit.f k a0 a1 a2) (bigint_limbs_digit.f (k + 1) a0 a1 a2) := by
  intro a0 a1 a2 k
  obtain ⟨ih0, ih1, ih2, ih3, ih4⟩ := bigint_limbs_digit.mono_l k
  unfold bigint_limbs_digit.f
  repeat' first
      | (with_reducible exact ih0 _ _ _ _ _)
      | (with_reducible exact ih1 _ _ _ _ _ _ _ _ _ _)
      | (with_reducible exact ih2 _ _ _ _ _ _ _ _)
      | (with_reducible exact ih3 _ _ _ _ _ _)
      | (with_reducible exact ih4 _ _ _ _ _ _ _)
      | (with_reducible exact LeO.refl _)
      | (with_reducible exact LeO.none _)
      | (with_reducible refine LeO.ite ?_ ?_)
      | (with_reducible refine LeO.bind ?_ (fun _ => ?_))
      | exact ih0 _ _ _ _ _
      | exact ih1 _ _ _ _ _ _ _ _ _ _
      | exact ih2 _ _ _ _ _ _ _ _
      | exact ih3 _ _ _ _ _ _
      | exact ih4 _ _ _ _ _ _ _
      | exact LeO.none _
      | refine LeO.ite ?_ ?_
      | refine LeO.bind ?_ (fun _ => ?_)
def bigint_limbs_divide.l0 : Nat → Int → List Int → List Int → List Int → Int → Option (List Int × List Int)
  | 0, _, _, _, _, _ => none
  | k + 1, x8, x9, x10, x11, x12 => if x12 ≥ 0 then ((bigint_limbs_digit.f k x9 x10 x12).bind fun bt335 => (if 0 ≤ x12 then (if x12 < (x11.length : Int) then (bigint_limbs_divide.l0 k x8 bt335.2 x10 (x11.set (x12 : Int).toNat bt335.1) (wrap64 (x12 - 1))) else (none)) else (none))) else ((bigint_limbs_trim.f k x11).bind fun t338 => ((bigint_limbs_trim.f k x9).bind fun t341 => ((bigint_limbs_unshift.f k t341 x8).bind fun t344 => (some (t338, t344)))))
def bigint_limbs_divide.f (k : Nat) (l0 : List Int) (l1 : List Int) : Option (List Int × List Int) := (bigint_limbs_compare.f k l0 l1).bind fun t309 => (if t309 < 0 then (some (([] : List Int), l0)) else (if (l1.length : Int) = 1 then (if 0 < (l1.length : Int) then ((bigint_limbs_short.f k l0 (rd l1 0)).bind fun bt311 => ((bigint_limbs_trim.f k (([bt311.2] : List Int))).bind fun t318 => (some (bt311.1, t318)))) else (none)) else (if 0 ≤ (wrap64 ((l1.length : Int) - 1)) then (if (wrap64 ((l1.length : Int) - 1)) < (l1.length : Int) then ((bits_LeadingZeros32.f (rd l1 (wrap64 ((l1.length : Int) - 1)))).bind fun t322 => ((bigint_limbs_shift.f k l0 t322).bind fun t323 => ((bigint_limbs_shift.f k l1 t322).bind fun t326 => ((bigint_limbs_trim.f k t326).bind fun t329 => (if 0 ≤ (wrap64 ((t323.length : Int) - (t329.length : Int))) then (if (wrap64 ((t323.length : Int) - (t329.length : Int)) : Int).toNat ≤ 70368744177664 then ((some (List.replicate (wrap64 ((t323.length : Int) - (t329.length : Int)) : Int).toNat 0 : List Int)).bind fun y332 => (bigint_limbs_divide.l0 k t322 t323 t329 y332 (wrap64 ((y332.length : Int) - 1)))) else (none)) else (none)))))) else (none)) else (none))))
theorem bigint_limbs_divide.mono_l : ∀ k, (∀ y0 y1 y2 y3 y4, LeO (bigint_limbs_divide.l0 k y0 y1 y2 y3 y4) (bigint_limbs_divide.l0 (k + 1) y0 y1 y2 y3 y4))
  | 0 => fun _ _ _ _ _ r h => by simp [bigint_limbs_divide.l0] at h
  | k + 1 => by
    have ih0 := bigint_limbs_divide.mono_l k
    · intro y0 y1 y2 y3 y4
      unfold bigint_limbs_divide.l0
      repeat' first
      | (with_reducible exact ih0 _ _ _ _ _)
      | (with_reducible exact bigint_limbs_compare.mono _ _ _)
      | (with_reducible exact bigint_limbs_digit.mono _ _ _ _)
      | (with_reducible exact bigint_limbs_shift.mono _ _ _)
      | (with_reducible exact bigint_limbs_short.mono _ _ _)
      | (with_reducible exact bigint_limbs_trim.mono _ _)
      | (with_reducible exact bigint_limbs_unshift.mono _ _ _)
      | (with_reducible exact LeO.refl _)
      | (with_reducible exact LeO.none _)
      | (with_reducible refine LeO.ite ?_ ?_)
      | (with_reducible refine LeO.bind ?_ (fun _ => ?_))
      | exact ih0 _ _ _ _ _
      | exact bigint_limbs_compare.mono _ _ _
      | exact bigint_limbs_digit.mono _ _ _ _
      | exact bigint_limbs_shift.mono _ _ _
      | exact bigint_limbs_short.mono _ _ _
      | exact bigint_limbs_trim.mono _ _
      | exact bigint_limbs_unshift.mono _ _ _
      | exact LeO.none _
      | refine LeO.ite ?_ ?_
      | refine LeO.bind ?_ (fun _ => ?_)
theorem bigint_limbs_divide.mono : ∀ a0 a1 k, LeO (bigint_limbs_divide.f k a0 a1) (bigint_limbs_divide.f (k + 1) a0 a1) := by
  intro a0 a1 k
  have ih0 := bigint_limbs_divide.mono_l k
  unfold bigint_limbs_divide.f
  repeat' first
      | (with_reducible exact ih0 _ _ _ _ _)
      | (with_reducible exact bigint_limbs_compare.mono _ _ _)
      | (with_reducible exact bigint_limbs_digit.mono _ _ _ _)
      | (with_reducible exact bigint_limbs_shift.mono _ _ _)
      | (with_reducible exact bigint_limbs_short.mono _ _ _)
      | (with_reducible exact bigint_limbs_trim.mono _ _)
      | (with_reducible exact bigint_limbs_unshift.mono _ _ _)
      | (with_reducible exact LeO.refl _)
      | (with_reducible exact LeO.none _)
      | (with_reducible refine LeO.ite ?_ ?_)
      | (with_reducible refine LeO.bind ?_ (fun _ => ?_))
      | exact ih0 _ _ _ _ _
      | exact bigint_limbs_compare.mono _ _ _
      | exact bigint_limbs_digit.mono _ _ _ _
      | exact bigint_limbs_shift.mono _ _ _
      | exact bigint_limbs_short.mono _ _ _
      | exact bigint_limbs_trim.mono _ _
      | exact bigint_limbs_unshift.mono _ _ _
      | exact LeO.none _
      | refine LeO.ite ?_ ?_
      | refine LeO.bind ?_ (fun _ => ?_)
def bigint_Mul.f (k : Nat) (a0_0 : Bool) (a0_1 : ByteArray) (a1_0 : Bool) (a1_1 : ByteArray) : Option (Bool × ByteArray) := (bigint_load.f k a0_1).bind fun t147 => ((bigint_load.f k a1_1).bind fun t150 => ((bigint_limbs_times.f k t147 t150).bind fun t153 => ((bigint_pack.f k (a0_0 != a1_0) t153).bind fun bt156 => (some (bt156.1, bt156.2)))))
theorem bigint_Mul.mono : ∀ a0 a1 a2 a3 k, LeO (bigint_Mul.f k a0 a1 a2 a3) (bigint_Mul.f (k + 1) a0 a1 a2 a3) := by
  intro a0 a1 a2 a3 k
  unfold bigint_Mul.f
  repeat' first
      | (with_reducible exact bigint_limbs_times.mono _ _ _)
      | (with_reducible exact bigint_load.mono _ _)
      | (with_reducible exact bigint_pack.mono _ _ _)
      | (with_reducible exact LeO.refl _)
      | (with_reducible exact LeO.none _)
      | (with_reducible refine LeO.ite ?_ ?_)
      | (with_reducible refine LeO.bind ?_ (fun _ => ?_))
      | exact bigint_limbs_times.mono _ _ _
      | exact bigint_load.mono _ _
      | exact bigint_pack.mono _ _ _
      | exact LeO.none _
      | refine LeO.ite ?_ ?_
      | refine LeO.bind ?_ (fun _ => ?_)
def bigint_Add.j0 : Nat → Bool → ByteArray → Bool → ByteArray → Option (Bool × ByteArray)
  | 0, _, _, _, _ => none
  | k + 1, x223000, x223001, x224000, x224001 => (bigint_load.f k x223001).bind fun t231 => ((bigint_load.f k x224001).bind fun t234 => (if (x223000 == x224000) = true then ((bigint_limbs_plus.f k t231 t234).bind fun t237 => ((bigint_pack.f k x223000 t237).bind fun bt240 => (some (bt240.1, bt240.2)))) else ((bigint_limbs_compare.f k t231 t234).bind fun t242 => (if t242 < 0 then ((bigint_limbs_minus.f k t234 t231).bind fun t243 => ((bigint_pack.f k x224000 t243).bind fun bt246 => (some (bt246.1, bt246.2)))) else ((bigint_limbs_minus.f k t231 t234).bind fun t248 => ((bigint_pack.f k x223000 t248).bind fun bt251 => (some (bt251.1, bt251.2))))))))
def bigint_Add.f (k : Nat) (a0_0 : Bool) (a0_1 : ByteArray) (a1_0 : Bool) (a1_1 : ByteArray) : Option (Bool × ByteArray) := (bigint_little.f k a0_0 a0_1).bind fun bt225 => (if bt225.2 = true then ((bigint_little.f k a1_0 a1_1).bind fun bt227 => (if bt227.2 = true then ((bigint_Of.f k (wrap64 (bt225.1 + bt227.1))).bind fun bt229 => (some (bt229.1, bt229.2))) else (bigint_Add.j0 k a0_0 a0_1 a1_0 a1_1))) else (bigint_Add.j0 k a0_0 a0_1 a1_0 a1_1))
theorem bigint_Add.mono_l : ∀ k, (∀ y0 y1 y2 y3, LeO (bigint_Add.j0 k y0 y1 y2 y3) (bigint_Add.j0 (k + 1) y0 y1 y2 y3))
  | 0 => fun _ _ _ _ r h => by simp [bigint_Add.j0] at h
  | k + 1 => by
    have ih0 := bigint_Add.mono_l k
    · intro y0 y1 y2 y3
      unfold bigint_Add.j0
      repeat' first
      | (with_reducible exact ih0 _ _ _ _)
      | (with_reducible exact bigint_Of.mono _ _)
      | (with_reducible exact bigint_limbs_compare.mono _ _ _)
      | (with_reducible exact bigint_limbs_minus.mono _ _ _)
      | (with_reducible exact bigint_limbs_plus.mono _ _ _)
      | (with_reducible exact bigint_little.mono _ _ _)
      | (with_reducible exact bigint_load.mono _ _)
      | (with_reducible exact bigint_pack.mono _ _ _)
      | (with_reducible exact LeO.refl _)
      | (with_reducible exact LeO.none _)
      | (with_reducible refine LeO.ite ?_ ?_)
      | (with_reducible refine LeO.bind ?_ (fun _ => ?_))
      | exact ih0 _ _ _ _
      | exact bigint_Of.mono _ _
      | exact bigint_limbs_compare.mono _ _ _
      | exact bigint_limbs_minus.mono _ _ _
      | exact bigint_limbs_plus.mono _ _ _
      | exact bigint_little.mono _ _ _
      | exact bigint_load.mono _ _
      | exact bigint_pack.mono _ _ _
      | exact LeO.none _
      | refine LeO.ite ?_ ?_
      | refine LeO.bind ?_ (fun _ => ?_)
theorem bigint_Add.mono : ∀ a0 a1 a2 a3 k, LeO (bigint_Add.f k a0 a1 a2 a3) (bigint_Add.f (k + 1) a0 a1 a2 a3) := by
  intro a0 a1 a2 a3 k
  have ih0 := bigint_Add.mono_l k
  unfold bigint_Add.f
  repeat' first
      | (with_reducible exact ih0 _ _ _ _)
      | (with_reducible exact bigint_Of.mono _ _)
      | (with_reducible exact bigint_limbs_compare.mono _ _ _)
      | (with_reducible exact bigint_limbs_minus.mono _ _ _)
      | (with_reducible exact bigint_limbs_plus.mono _ _ _)
      | (with_reducible exact bigint_little.mono _ _ _)
      | (with_reducible exact bigint_load.mono _ _)
      | (with_reducible exact bigint_pack.mono _ _ _)
      | (with_reducible exact LeO.refl _)
      | (with_reducible exact LeO.none _)
      | (with_reducible refine LeO.ite ?_ ?_)
      | (with_reducible refine LeO.bind ?_ (fun _ => ?_))
      | exact ih0 _ _ _ _
      | exact bigint_Of.mono _ _
      | exact bigint_limbs_compare.mono _ _ _
      | exact bigint_limbs_minus.mono _ _ _
      | exact bigint_limbs_plus.mono _ _ _
      | exact bigint_little.mono _ _ _
      | exact bigint_load.mono _ _
      | exact bigint_pack.mono _ _ _
      | exact LeO.none _
      | refine LeO.ite ?_ ?_
      | refine LeO.bind ?_ (fun _ => ?_)
def bigint_Sub.f (k : Nat) (a0_0 : Bool) (a0_1 : ByteArray) (a1_0 : Bool) (a1_1 : ByteArray) : Option (Bool × ByteArray) := (bigint_Add.f k a0_0 a0_1 (!a1_0) a1_1).bind fun bt256 => (some (bt256.1, bt256.2))
theorem bigint_Sub.mono : ∀ a0 a1 a2 a3 k, LeO (bigint_Sub.f k a0 a1 a2 a3) (bigint_Sub.f (k + 1) a0 a1 a2 a3) := by
  intro a0 a1 a2 a3 k
  unfold bigint_Sub.f
  repeat' first
      | (with_reducible exact bigint_Add.mono _ _ _ _ _)
      | (with_reducible exact LeO.refl _)
      | (with_reducible exact LeO.none _)
      | (with_reducible refine LeO.ite ?_ ?_)
      | (with_reducible refine LeO.bind ?_ (fun _ => ?_))
      | exact bigint_Add.mono _ _ _ _ _
      | exact LeO.none _
      | refine LeO.ite ?_ ?_
      | refine LeO.bind ?_ (fun _ => ?_)
def bigint_Bits.f (k : Nat) (a0_0 : Bool) (a0_1 : ByteArray) : Option (Int) := (bigint_load.f k a0_1).bind fun t412 => ((bigint_limbs_size.f t412).bind fun t415 => (some t415))
theorem bigint_Bits.mono : ∀ a0 a1 k, LeO (bigint_Bits.f k a0 a1) (bigint_Bits.f (k + 1) a0 a1) := by
  intro a0 a1 k
  unfold bigint_Bits.f
  repeat' first
      | (with_reducible exact bigint_load.mono _ _)
      | (with_reducible exact LeO.refl _)
      | (with_reducible exact LeO.none _)
      | (with_reducible refine LeO.ite ?_ ?_)
      | (with_reducible refine LeO.bind ?_ (fun _ => ?_))
      | exact bigint_load.mono _ _
      | exact LeO.none _
      | refine LeO.ite ?_ ?_
      | refine LeO.bind ?_ (fun _ => ?_)
mutual
def bigint_Compare.j0 : Nat → List Int → List Int → Bool → ByteArray → Bool → ByteArray → Option (Int)
  | 0, _, _, _, _, _, _ => none
  | k + 1, x5, x6, x563000, x563001, x564000, x564001 => if x563000 = true then (bigint_Compare.j1 k x5 x6 x564000 x563000 x563001 x564000 x564001) else (bigint_Compare.j1 k x5 x6 false x563000 x563001 x564000 x564001)
def bigint_Compare.j1 : Nat → List Int → List Int → Bool → Bool → ByteArray → Bool → ByteArray → Option (Int)
  | 0, _, _, _, _, _, _, _ => none
  | k + 1, x5, x6, x29, x563000, x563001, x564000, x564001 => if x29 = true then ((bigint_limbs_compare.f k x6 x5).bind fun t570 => (some t570)) else (if x563000 = true then (some (-1)) else (if x564000 = true then (some 1) else ((bigint_limbs_compare.f k x5 x6).bind fun t571 => (some t571))))
end
def bigint_Compare.f (k : Nat) (a0_0 : Bool) (a0_1 : ByteArray) (a1_0 : Bool) (a1_1 : ByteArray) : Option (Int) := (bigint_load.f k a0_1).bind fun t564 => ((bigint_load.f k a1_1).bind fun t567 => (if a0_0 = true then (if a1_0 = true then (bigint_Compare.j0 k t564 t567 (decide (0 < t564.length)) a0_1 (decide (0 < t567.length)) a1_1) else (bigint_Compare.j0 k t564 t567 (decide (0 < t564.length)) a0_1 false a1_1)) else (if a1_0 = true then (bigint_Compare.j0 k t564 t567 false a0_1 (decide (0 < t567.length)) a1_1) else (bigint_Compare.j0 k t564 t567 false a0_1 false a1_1))))
theorem bigint_Compare.mono_l : ∀ k, (∀ y0 y1 y2 y3 y4 y5, LeO (bigint_Compare.j0 k y0 y1 y2 y3 y4 y5) (bigint_Compare.j0 (k + 1) y0 y1 y2 y3 y4 y5)) ∧ (∀ y0 y1 y2 y3 y4 y5 y6, LeO (bigint_Compare.j1 k y0 y1 y2 y3 y4 y5 y6) (bigint_Compare.j1 (k + 1) y0 y1 y2 y3 y4 y5 y6))
  | 0 => ⟨fun _ _ _ _ _ _ r h => by simp [bigint_Compare.j0] at h, fun _ _ _ _ _ _ _ r h => by simp [bigint_Compare.j1] at h⟩
  | k + 1 => by
    obtain ⟨ih0, ih1⟩ := bigint_Compare.mono_l k
    refine ⟨?_, ?_⟩
    · intro y0 y1 y2 y3 y4 y5
      unfold bigint_Compare.j0
      repeat' first
      | (with_reducible exact ih0 _ _ _ _ _ _)
      | (with_reducible exact ih1 _ _ _ _ _ _ _)
      | (with_reducible exact bigint_limbs_compare.mono _ _ _)
      | (with_reducible exact bigint_load.mono _ _)
      | (with_reducible exact LeO.refl _)
      | (with_reducible exact LeO.none _)
      | (with_reducible refine LeO.ite ?_ ?_)
      | (with_reducible refine LeO.bind ?_ (fun _ => ?_))
      | exact ih0 _ _ _ _ _ _
      | exact ih1 _ _ _ _ _ _ _
      | exact bigint_limbs_compare.mono _ _ _
      | exact bigint_load.mono _ _
      | exact LeO.none _
      | refine LeO.ite ?_ ?_
      | refine LeO.bind ?_ (fun _ => ?_)
    · intro y0 y1 y2 y3 y4 y5 y6
      unfold bigint_Compare.j1
      repeat' first
      | (with_reducible exact ih0 _ _ _ _ _ _)
      | (with_reducible exact ih1 _ _ _ _ _ _ _)
      | (with_reducible exact bigint_limbs_compare.mono _ _ _)
      | (with_reducible exact bigint_load.mono _ _)
      | (with_reducible exact LeO.refl _)
      | (with_reducible exact LeO.none _)
      | (with_reducible refine LeO.ite ?_ ?_)
      | (with_reducible refine LeO.bind ?_ (fun _ => ?_))
      | exact ih0 _ _ _ _ _ _
      | exact ih1 _ _ _ _ _ _ _
      | exact bigint_limbs_compare.mono _ _ _
      | exact bigint_load.mono _ _
      | exact LeO.none _
      | refine LeO.ite ?_ ?_
      | refine LeO.bind ?_ (fun _ => ?_)
theorem bigint_Compare.mono : ∀ a0 a1 a2 a3 k, LeO (bigint_Compare.f k a0 a1 a2 a3) (bigint_Compare.f (k + 1) a0 a1 a2 a3) := by
  intro a0 a1 a2 a3 k
  obtain ⟨ih0, ih1⟩ := bigint_Compare.mono_l k
  unfold bigint_Compare.f
  repeat' first
      | (with_reducible exact ih0 _ _ _ _ _ _)
      | (with_reducible exact ih1 _ _ _ _ _ _ _)
      | (with_reducible exact bigint_limbs_compare.mono _ _ _)
      | (with_reducible exact bigint_load.mono _ _)
      | (with_reducible exact LeO.refl _)
      | (with_reducible exact LeO.none _)
      | (with_reducible refine LeO.ite ?_ ?_)
      | (with_reducible refine LeO.bind ?_ (fun _ => ?_))
      | exact ih0 _ _ _ _ _ _
      | exact ih1 _ _ _ _ _ _ _
      | exact bigint_limbs_compare.mono _ _ _
      | exact bigint_load.mono _ _
      | exact LeO.none _
      | refine LeO.ite ?_ ?_
      | refine LeO.bind ?_ (fun _ => ?_)
def bigint_Neg.f (k : Nat) (a0_0 : Bool) (a0_1 : ByteArray) : Option (Bool × ByteArray) := (bigint_load.f k a0_1).bind fun t579 => ((bigint_pack.f k (!a0_0) t579).bind fun bt582 => (some (bt582.1, bt582.2)))
theorem bigint_Neg.mono : ∀ a0 a1 k, LeO (bigint_Neg.f k a0 a1) (bigint_Neg.f (k + 1) a0 a1) := by
  intro a0 a1 k
  unfold bigint_Neg.f
  repeat' first
      | (with_reducible exact bigint_load.mono _ _)
      | (with_reducible exact bigint_pack.mono _ _ _)
      | (with_reducible exact LeO.refl _)
      | (with_reducible exact LeO.none _)
      | (with_reducible refine LeO.ite ?_ ?_)
      | (with_reducible refine LeO.bind ?_ (fun _ => ?_))
      | exact bigint_load.mono _ _
      | exact bigint_pack.mono _ _ _
      | exact LeO.none _
      | refine LeO.ite ?_ ?_
      | refine LeO.bind ?_ (fun _ => ?_)
def bigint_Check.f (k : Nat) (a0_0 : Bool) (a0_1 : ByteArray) : Option (Int) := (bigint_strip.f k a0_1).bind fun t598 => (if t598.toList = a0_1.toList then (if a0_0 = true then (if a0_1.toList = ([] : List UInt8) then (some 1) else (some 0)) else (some 0)) else (some 1))
theorem bigint_Check.mono : ∀ a0 a1 k, LeO (bigint_Check.f k a0 a1) (bigint_Check.f (k + 1) a0 a1) := by
  intro a0 a1 k
  unfold bigint_Check.f
  repeat' first
      | (with_reducible exact bigint_strip.mono _ _)
      | (with_reducible exact LeO.refl _)
      | (with_reducible exact LeO.none _)
      | (with_reducible refine LeO.ite ?_ ?_)
      | (with_reducible refine LeO.bind ?_ (fun _ => ?_))
      | exact bigint_strip.mono _ _
      | exact LeO.none _
      | refine LeO.ite ?_ ?_
      | refine LeO.bind ?_ (fun _ => ?_)
def bigint_Root.l0 : Nat → List Int → List Int → Option (Bool × ByteArray × Bool × Int)
  | 0, _, _ => none
  | k + 1, x5, x7 => (bigint_limbs_divide.f k x5 x7).bind fun bt392 => ((bigint_limbs_plus.f k x7 bt392.1).bind fun t398 => ((bigint_limbs_unshift.f k t398 1).bind fun t401 => ((bigint_limbs_compare.f k t401 x7).bind fun t404 => (if t404 ≥ 0 then ((bigint_pack.f k false x7).bind fun bt405 => ((bigint_limbs_times.f k x7 x7).bind fun t407 => ((bigint_limbs_compare.f k t407 x5).bind fun t410 => (some (bt405.1, bt405.2, (t410 == 0), 0))))) else (bigint_Root.l0 k x5 t401)))))
def bigint_Root.f (k : Nat) (a0_0 : Bool) (a0_1 : ByteArray) : Option (Bool × ByteArray × Bool × Int) := (bigint_load.f k a0_1).bind fun t379 => (if (t379.length : Int) = 0 then (some (false, (⟨#[]⟩ : ByteArray), true, 0)) else (if a0_0 = true then (some (false, (⟨#[]⟩ : ByteArray), false, 2)) else ((bigint_limbs_size.f t379).bind fun t382 => (if 0 ≤ (wrap64 (Int.tdiv (wrap64 (Int.tdiv (wrap64 (t382 + 1)) 2)) 32)) then (if (wrap64 (Int.tdiv (wrap64 (Int.tdiv (wrap64 (t382 + 1)) 2)) 32) : Int).toNat ≤ 70368744177664 then ((some (List.replicate (wrap64 (Int.tdiv (wrap64 (Int.tdiv (wrap64 (t382 + 1)) 2)) 32) : Int).toNat 0 : List Int)).bind fun y383 => (if 0 ≤ (Int.tmod (wrap64 (Int.tdiv (wrap64 (t382 + 1)) 2)) 32) then ((some (([shl .u32 1 (Int.tmod (wrap64 (Int.tdiv (wrap64 (t382 + 1)) 2)) 32)] : List Int) : List Int)).bind fun y386 => (if y383.length + y386.length < 35184372088832 then (bigint_Root.l0 k t379 (y383 ++ y386)) else (none))) else (none))) else (none)) else (none)))))
theorem bigint_Root.mono_l : ∀ k, (∀ y0 y1, LeO (bigint_Root.l0 k y0 y1) (bigint_Root.l0 (k + 1) y0 y1))
  | 0 => fun _ _ r h => by simp [bigint_Root.l0] at h
  | k + 1 => by
    have ih0 := bigint_Root.mono_l k
    · intro y0 y1
      unfold bigint_Root.l0
      repeat' first
      | (with_reducible exact ih0 _ _)
      | (with_reducible exact bigint_limbs_compare.mono _ _ _)
      | (with_reducible exact bigint_limbs_divide.mono _ _ _)
      | (with_reducible exact bigint_limbs_plus.mono _ _ _)
      | (with_reducible exact bigint_limbs_times.mono _ _ _)
      | (with_reducible exact bigint_limbs_unshift.mono _ _ _)
      | (with_reducible exact bigint_load.mono _ _)
      | (with_reducible exact bigint_pack.mono _ _ _)
      | (with_reducible exact LeO.refl _)
      | (with_reducible exact LeO.none _)
      | (with_reducible refine LeO.ite ?_ ?_)
      | (with_reducible refine LeO.bind ?_ (fun _ => ?_))
      | exact ih0 _ _
      | exact bigint_limbs_compare.mono _ _ _
      | exact bigint_limbs_divide.mono _ _ _
      | exact bigint_limbs_plus.mono _ _ _
      | exact bigint_limbs_times.mono _ _ _
      | exact bigint_limbs_unshift.mono _ _ _
      | exact bigint_load.mono _ _
      | exact bigint_pack.mono _ _ _
      | exact LeO.none _
      | refine LeO.ite ?_ ?_
      | refine LeO.bind ?_ (fun _ => ?_)
theorem bigint_Root.mono : ∀ a0 a1 k, LeO (bigint_Root.f k a0 a1) (bigint_Root.f (k + 1) a0 a1) := by
  intro a0 a1 k
  have ih0 := bigint_Root.mono_l k
  unfold bigint_Root.f
  repeat' first
      | (with_reducible exact ih0 _ _)
      | (with_reducible exact bigint_limbs_compare.mono _ _ _)
      | (with_reducible exact bigint_limbs_divide.mono _ _ _)
      | (with_reducible exact bigint_limbs_plus.mono _ _ _)
      | (with_reducible exact bigint_limbs_times.mono _ _ _)
      | (with_reducible exact bigint_limbs_unshift.mono _ _ _)
      | (with_reducible exact bigint_load.mono _ _)
      | (with_reducible exact bigint_pack.mono _ _ _)
      | (with_reducible exact LeO.refl _)
      | (with_reducible exact LeO.none _)
      | (with_reducible refine LeO.ite ?_ ?_)
      | (with_reducible refine LeO.bind ?_ (fun _ => ?_))
      | exact ih0 _ _
      | exact bigint_limbs_compare.mono _ _ _
      | exact bigint_limbs_divide.mono _ _ _
      | exact bigint_limbs_plus.mono _ _ _
      | exact bigint_limbs_times.mono _ _ _
      | exact bigint_limbs_unshift.mono _ _ _
      | exact bigint_load.mono _ _
      | exact bigint_pack.mono _ _ _
      | exact LeO.none _
      | refine LeO.ite ?_ ?_
      | refine LeO.bind ?_ (fun _ => ?_)
def bigint_Gcd.l0 : Nat → List Int → List Int → Option (Bool × ByteArray)
  | 0, _, _ => none
  | k + 1, x5, x6 => if (x6.length : Int) > 0 then ((bigint_limbs_divide.f k x5 x6).bind fun bt543 => (bigint_Gcd.l0 k x6 bt543.2)) else ((bigint_pack.f k false x5).bind fun bt549 => (some (bt549.1, bt549.2)))
def bigint_Gcd.f (k : Nat) (a0_0 : Bool) (a0_1 : ByteArray) (a1_0 : Bool) (a1_1 : ByteArray) : Option (Bool × ByteArray) := (bigint_load.f k a0_1).bind fun t537 => ((bigint_load.f k a1_1).bind fun t540 => (bigint_Gcd.l0 k t537 t540))
theorem bigint_Gcd.mono_l : ∀ k, (∀ y0 y1, LeO (bigint_Gcd.l0 k y0 y1) (bigint_Gcd.l0 (k + 1) y0 y1))
  | 0 => fun _ _ r h => by simp [bigint_Gcd.l0] at h
  | k + 1 => by
    have ih0 := bigint_Gcd.mono_l k
    · intro y0 y1
      unfold bigint_Gcd.l0
      repeat' first
      | (with_reducible exact ih0 _ _)
      | (with_reducible exact bigint_limbs_divide.mono _ _ _)
      | (with_reducible exact bigint_load.mono _ _)
      | (with_reducible exact bigint_pack.mono _ _ _)
      | (with_reducible exact LeO.refl _)
      | (with_reducible exact LeO.none _)
      | (with_reducible refine LeO.ite ?_ ?_)
      | (with_reducible refine LeO.bind ?_ (fun _ => ?_))
      | exact ih0 _ _
      | exact bigint_limbs_divide.mono _ _ _
      | exact bigint_load.mono _ _
      | exact bigint_pack.mono _ _ _
      | exact LeO.none _
      | refine LeO.ite ?_ ?_
      | refine LeO.bind ?_ (fun _ => ?_)
theorem bigint_Gcd.mono : ∀ a0 a1 a2 a3 k, LeO (bigint_Gcd.f k a0 a1 a2 a3) (bigint_Gcd.f (k + 1) a0 a1 a2 a3) := by
  intro a0 a1 a2 a3 k
  have ih0 := bigint_Gcd.mono_l k
  unfold bigint_Gcd.f
  repeat' first
      | (with_reducible exact ih0 _ _)
      | (with_reducible exact bigint_limbs_divide.mono _ _ _)
      | (with_reducible exact bigint_load.mono _ _)
      | (with_reducible exact bigint_pack.mono _ _ _)
      | (with_reducible exact LeO.refl _)
      | (with_reducible exact LeO.none _)
      | (with_reducible refine LeO.ite ?_ ?_)
      | (with_reducible refine LeO.bind ?_ (fun _ => ?_))
      | exact ih0 _ _
      | exact bigint_limbs_divide.mono _ _ _
      | exact bigint_load.mono _ _
      | exact bigint_pack.mono _ _ _
      | exact LeO.none _
      | refine LeO.ite ?_ ?_
      | refine LeO.bind ?_ (fun _ => ?_)
end Go.Proofs.Ytkmblomkocfldaa.F

/- What the machine's integers stand for: digits in base 256, the most significant one first; limbs in base 2^32, the least significant one first; and their canonical forms. Plain laws; no program in sight. -/
set_option linter.unusedVariables false
namespace Go.Proofs.Ytkmblomkocfldaa.Sp
open Go.RowKit

/-! ### digits -/
def vB (l : List UInt8) : Nat := l.foldl (fun n c => n * 256 + c.toNat) 0
theorem vB_nil : vB [] = 0 := rfl
theorem vB_snoc (l : List UInt8) (c : UInt8) : vB (l ++ [c]) = vB l * 256 + c.toNat := by simp [vB, List.foldl_append]
theorem foldl_from (l : List UInt8) : ∀ a : Nat, l.foldl (fun n c => n * 256 + c.toNat) a = a * 256 ^ l.length + vB l := by
  induction l with
  | nil => intro a; simp [vB]
  | cons c l ih =>
    intro a
    rw [vB, List.foldl_cons, List.foldl_cons, ih, ih (0 * 256 + c.toNat), List.length_cons, Nat.pow_succ]
    simp only [Nat.add_mul, Nat.zero_mul, Nat.zero_add, Nat.mul_assoc, Nat.mul_comm 256]
    omega
theorem vB_cons (c : UInt8) (l : List UInt8) : vB (c :: l) = c.toNat * 256 ^ l.length + vB l := by
  rw [vB, List.foldl_cons, foldl_from]; simp
theorem vB_append (l m : List UInt8) : vB (l ++ m) = vB l * 256 ^ m.length + vB m := by
  rw [vB, List.foldl_append, foldl_from]; rfl
theorem vB_lt (l : List UInt8) : vB l < 256 ^ l.length := by
  induction l with
  | nil => simp [vB]
  | cons c l ih =>
    rw [vB_cons, List.length_cons, Nat.pow_succ]
    have := c.toNat_lt
    have h : c.toNat * 256 ^ l.length ≤ 255 * 256 ^ l.length := Nat.mul_le_mul_right _ (by omega)
    omega
theorem vB_replicate (n : Nat) : vB (List.replicate n 0) = 0 := by
  induction n with
  | zero => rfl
  | succ n ih => rw [List.replicate_succ, vB_cons, ih]; simp
def toB (n : Nat) : List UInt8 := if h : n = 0 then [] else toB (n / 256) ++ [UInt8.ofNat n]
termination_by n
decreasing_by omega
theorem toB_zero : toB 0 = [] := by rw [toB]; simp
theorem toB_pos {n : Nat} (h : n ≠ 0) : toB n = toB (n / 256) ++ [UInt8.ofNat n] := by rw [toB, dif_neg h]
theorem vB_toB (n : Nat) : vB (toB n) = n := by
  induction n using Nat.strongRecOn with
  | _ n ih =>
    by_cases h : n = 0
    · subst h; rw [toB_zero]; rfl
    · rw [toB_pos h, vB_snoc, ih _ (by omega)]
      have : (UInt8.ofNat n).toNat = n % 256 := by simp [UInt8.toNat_ofNat']
      omega
/-- No leading zero. -/
def Lead : List UInt8 → Prop
  | [] => True
  | c :: _ => c ≠ 0
theorem vB_pos_of_lead {l : List UInt8} (h : Lead l) (hl : l ≠ []) : 0 < vB l := by
  cases l with
  | nil => exact absurd rfl hl
  | cons c l =>
    rw [vB_cons]
    have h0 : 0 < c.toNat := Nat.pos_of_ne_zero (fun e => h (UInt8.toNat_inj.1 (by simpa using e)))
    have := Nat.mul_pos h0 (Nat.pow_pos (n := l.length) (by decide : 0 < 256))
    omega
theorem ofNat_toNat_mod (a : Nat) (c : UInt8) : UInt8.ofNat (a * 256 + c.toNat) = c := by
  apply UInt8.toNat_inj.1
  simp
theorem toB_of_lead (l : List UInt8) (h : Lead l) : toB (vB l) = l := by
  induction hn : l.length generalizing l with
  | zero => rw [List.length_eq_zero_iff.1 hn, vB_nil, toB_zero]
  | succ n ih =>
    have hne : l ≠ [] := fun e => by rw [e] at hn; simp at hn
    have e := List.dropLast_concat_getLast hne
    have hp := vB_pos_of_lead h hne
    rw [toB_pos (by omega)]
    have hl : Lead l.dropLast := by
      cases l with
      | nil => exact absurd rfl hne
      | cons c l =>
        cases l with
        | nil => exact True.intro
        | cons d l => exact h
    have hv : vB l = vB l.dropLast * 256 + (l.getLast hne).toNat := by rw [← vB_snoc, e]
    have h1 : vB l / 256 = vB l.dropLast := by have := (l.getLast hne).toNat_lt; omega
    rw [h1, ih l.dropLast hl (by simp [hn]), hv, ofNat_toNat_mod, e]
theorem lead_snoc {l : List UInt8} (h : Lead l) (hl : l ≠ []) (c : UInt8) : Lead (l ++ [c]) := by
  cases l with
  | nil => exact absurd rfl hl
  | cons d l => exact h
theorem lead_toB (n : Nat) : Lead (toB n) := by
  induction n using Nat.strongRecOn with
  | _ n ih =>
    by_cases h : n = 0
    · subst h; rw [toB_zero]; exact True.intro
    · rw [toB_pos h]
      by_cases h2 : n / 256 = 0
      · rw [h2, toB_zero]
        show UInt8.ofNat n ≠ 0
        intro e
        have := congrArg UInt8.toNat e
        simp [UInt8.toNat_ofNat'] at this
        omega
      · exact lead_snoc (ih _ (by omega)) (fun e => by have := congrArg vB e; rw [vB_toB] at this; exact h2 this) _
theorem toB_nil_iff (n : Nat) : toB n = [] ↔ n = 0 :=
  ⟨fun e => by have := congrArg vB e; rwa [vB_toB] at this, fun e => by rw [e, toB_zero]⟩
theorem len_toB_le {n m : Nat} (h : n < 256 ^ m) : (toB n).length ≤ m := by
  induction m generalizing n with
  | zero => have : n = 0 := by simpa using h
            rw [this, toB_zero]; simp
  | succ m ih =>
    by_cases h0 : n = 0
    · rw [h0, toB_zero]; simp
    · rw [toB_pos h0, List.length_append]
      have := ih (n := n / 256) (by rw [Nat.pow_succ] at h; omega)
      simp; omega
theorem lt_of_len_toB {n m : Nat} (h : (toB n).length ≤ m) : n < 256 ^ m := by
  have h1 := vB_lt (toB n)
  rw [vB_toB] at h1
  exact Nat.lt_of_lt_of_le h1 (Nat.pow_le_pow_right (by decide) h)
theorem le_of_len_toB {n m : Nat} (h : m < (toB n).length) : 256 ^ m ≤ n := by
  rcases Nat.lt_or_ge n (256 ^ m) with h1 | h1
  · have := len_toB_le h1; omega
  · exact h1
/-- Digits without leading zeros. -/
def strip0 (l : List UInt8) : List UInt8 := l.dropWhile (· == 0)
theorem vB_strip0 (l : List UInt8) : vB (strip0 l) = vB l := by
  induction l with
  | nil => rfl
  | cons c l ih =>
    unfold strip0 at *
    rw [List.dropWhile_cons]
    split
    · rename_i hc
      have : c = 0 := by simpa using hc
      rw [ih, vB_cons, this]; simp
    · rfl
theorem lead_strip0 (l : List UInt8) : Lead (strip0 l) := by
  induction l with
  | nil => exact True.intro
  | cons c l ih =>
    unfold strip0 at *
    rw [List.dropWhile_cons]
    split
    · exact ih
    · rename_i hc
      exact fun e => hc (by simpa using e)
theorem toB_vB (l : List UInt8) : toB (vB l) = strip0 l := by rw [← vB_strip0, toB_of_lead _ (lead_strip0 l)]
theorem len_strip0 (l : List UInt8) : (strip0 l).length ≤ l.length := by
  rw [← toB_vB]; exact len_toB_le (vB_lt l)

def magOf (n : Nat) : ByteArray := ⟨(toB n).toArray⟩
def vS (s : ByteArray) : Nat := vB s.data.toList
theorem vS_magOf (n : Nat) : vS (magOf n) = n := vB_toB n
theorem magOf_data (n : Nat) : (magOf n).data.toList = toB n := by simp [magOf]
theorem size_magOf (n : Nat) : (magOf n).size = (toB n).length := by simp [magOf, ByteArray.size]
theorem vS_lt (s : ByteArray) : vS s < 256 ^ s.size := by
  have := vB_lt s.data.toList
  rwa [Array.length_toList] at this
theorem size_magOf_le {n m : Nat} (h : n < 256 ^ m) : (magOf n).size ≤ m := by rw [size_magOf]; exact len_toB_le h
theorem lt_of_size_magOf {n m : Nat} (h : (magOf n).size ≤ m) : n < 256 ^ m := by rw [size_magOf] at h; exact lt_of_len_toB h
theorem magOf_inj {a b : Nat} (h : magOf a = magOf b) : a = b := by have := congrArg vS h; rwa [vS_magOf, vS_magOf] at this
theorem magOf_vS (s : ByteArray) : magOf (vS s) = ⟨(strip0 s.data.toList).toArray⟩ := by unfold magOf vS; rw [toB_vB]
theorem bytes_ext {a b : ByteArray} (h : a.data.toList = b.data.toList) : a = b := by
  cases a; cases b; simpa using h
theorem magOf_of_lead (s : ByteArray) (h : Lead s.data.toList) : magOf (vS s) = s := by
  apply bytes_ext
  rw [magOf_data]
  exact toB_of_lead _ h

/-! ### limbs -/
def vL : List Int → Nat
  | [] => 0
  | x :: xs => x.toNat + 4294967296 * vL xs
def okL (l : List Int) : Prop := ∀ x ∈ l, 0 ≤ x ∧ x < 4294967296
def toL (n : Nat) : List Int := if h : n = 0 then [] else ((n % 4294967296 : Nat) : Int) :: toL (n / 4294967296)
termination_by n
decreasing_by omega
theorem toL_zero : toL 0 = [] := by rw [toL]; simp
theorem toL_pos {n : Nat} (h : n ≠ 0) : toL n = ((n % 4294967296 : Nat) : Int) :: toL (n / 4294967296) := by rw [toL, dif_neg h]
theorem okL_nil : okL [] := fun _ h => by cases h
theorem okL_cons {x : Int} {l : List Int} : okL (x :: l) ↔ (0 ≤ x ∧ x < 4294967296) ∧ okL l := by simp [okL]
theorem okL_append {l m : List Int} : okL (l ++ m) ↔ okL l ∧ okL m := by
  simp only [okL, List.mem_append]
  exact ⟨fun h => ⟨fun x hx => h x (.inl hx), fun x hx => h x (.inr hx)⟩, fun h x hx => hx.elim (h.1 x) (h.2 x)⟩
theorem okL_take {l : List Int} (h : okL l) (k : Nat) : okL (l.take k) := fun x hx => h x (List.mem_of_mem_take hx)
theorem okL_drop {l : List Int} (h : okL l) (k : Nat) : okL (l.drop k) := fun x hx => h x (List.mem_of_mem_drop hx)
theorem okL_set {l : List Int} (h : okL l) (i : Nat) (x : Int) (h0 : 0 ≤ x) (h1 : x < 4294967296) : okL (l.set i x) := fun y hy => by
  rcases List.mem_or_eq_of_mem_set hy with hy | rfl
  · exact h y hy
  · exact ⟨h0, h1⟩
theorem okL_replicate (n : Nat) : okL (List.replicate n 0) := fun x hx => by rw [(List.mem_replicate.1 hx).2]; omega
theorem okL_rd {l : List Int} (h : okL l) (i : Int) : 0 ≤ Go.Proofs.YtkmblomkocfldaaW.PrintWords.rd l i ∧ Go.Proofs.YtkmblomkocfldaaW.PrintWords.rd l i < 4294967296 := by
  unfold Go.Proofs.YtkmblomkocfldaaW.PrintWords.rd
  rcases Nat.lt_or_ge i.toNat l.length with hi | hi
  · rw [List.getD_eq_getElem?_getD, List.getElem?_eq_getElem hi, Option.getD_some]
    exact h _ (List.getElem_mem hi)
  · rw [List.getD_eq_getElem?_getD, List.getElem?_eq_none hi]; simp
theorem vL_nil : vL [] = 0 := rfl
theorem vL_cons (x : Int) (l : List Int) : vL (x :: l) = x.toNat + 4294967296 * vL l := rfl
theorem vL_append (l m : List Int) : vL (l ++ m) = vL l + 4294967296 ^ l.length * vL m := by
  induction l with
  | nil => simp [vL]
  | cons x l ih => simp only [List.cons_append, vL_cons, ih, List.length_cons, Nat.pow_succ]; grind
theorem vL_lt {l : List Int} (h : okL l) : vL l < 4294967296 ^ l.length := by
  induction l with
  | nil => simp [vL]
  | cons x l ih =>
    rw [okL_cons] at h
    have := ih h.2
    rw [vL_cons, List.length_cons, Nat.pow_succ]
    omega
theorem vL_replicate (n : Nat) : vL (List.replicate n 0) = 0 := by
  induction n with
  | zero => rfl
  | succ n ih => rw [List.replicate_succ, vL_cons, ih]; simp
theorem vL_toL (n : Nat) : vL (toL n) = n := by
  induction n using Nat.strongRecOn with
  | _ n ih =>
    by_cases h : n = 0
    · subst h; rw [toL_zero]; rfl
    · rw [toL_pos h, vL_cons, ih _ (by omega)]
      omega
theorem okL_toL (n : Nat) : okL (toL n) := by
  induction n using Nat.strongRecOn with
  | _ n ih =>
    by_cases h : n = 0
    · subst h; rw [toL_zero]; exact okL_nil
    · rw [toL_pos h, okL_cons]
      exact ⟨by omega, ih _ (by omega)⟩
/-- No leading zero. -/
def Trim (l : List Int) : Prop := ∀ h : l ≠ [], l.getLast h ≠ 0
theorem trim_tail {x : Int} {l : List Int} (h : Trim (x :: l)) : Trim l := fun hl => by
  have := h (by simp)
  rwa [List.getLast_cons hl] at this
theorem vL_pos {l : List Int} (h : okL l) (ht : Trim l) (hl : l ≠ []) : 0 < vL l := by
  induction l with
  | nil => exact absurd rfl hl
  | cons x l ih =>
    rw [okL_cons] at h
    rw [vL_cons]
    by_cases hl2 : l = []
    · subst hl2
      have := ht (by simp)
      simp at this
      omega
    · have := ih h.2 (trim_tail ht) hl2
      omega
theorem toL_vL {l : List Int} (h : okL l) (ht : Trim l) : toL (vL l) = l := by
  induction l with
  | nil => rw [vL_nil, toL_zero]
  | cons x l ih =>
    have hp := vL_pos h ht (by simp)
    rw [toL_pos (by omega)]
    rw [okL_cons] at h
    have h1 : vL (x :: l) % 4294967296 = x.toNat := by rw [vL_cons]; omega
    have h2 : vL (x :: l) / 4294967296 = vL l := by rw [vL_cons]; omega
    rw [h1, h2, ih h.2 (trim_tail ht)]
    congr 1
    omega
theorem trim_nil : Trim [] := fun h => absurd rfl h
theorem trim_toL (n : Nat) : Trim (toL n) := by
  induction n using Nat.strongRecOn with
  | _ n ih =>
    by_cases h : n = 0
    · subst h; rw [toL_zero]; exact trim_nil
    · rw [toL_pos h]
      intro hne
      by_cases h2 : n / 4294967296 = 0
      · have e : toL (n / 4294967296) = [] := by rw [h2, toL_zero]
        simp only [e, List.getLast_singleton]
        omega
      · have h3 : toL (n / 4294967296) ≠ [] := fun e => by have := congrArg vL e; rw [vL_toL] at this; exact h2 this
        rw [List.getLast_cons h3]
        exact ih _ (by omega) h3
theorem toL_nil_iff (n : Nat) : toL n = [] ↔ n = 0 :=
  ⟨fun e => by have := congrArg vL e; rwa [vL_toL] at this, fun e => by rw [e, toL_zero]⟩
theorem len_toL_le {n m : Nat} (h : n < 4294967296 ^ m) : (toL n).length ≤ m := by
  induction m generalizing n with
  | zero => have : n = 0 := by simpa using h
            rw [this, toL_zero]; simp
  | succ m ih =>
    by_cases h0 : n = 0
    · rw [h0, toL_zero]; simp
    · rw [toL_pos h0, List.length_cons]
      have := ih (n := n / 4294967296) (by rw [Nat.pow_succ] at h; omega)
      omega
theorem lt_of_len_toL {n m : Nat} (h : (toL n).length ≤ m) : n < 4294967296 ^ m := by
  have h1 := vL_lt (okL_toL n)
  rw [vL_toL] at h1
  exact Nat.lt_of_lt_of_le h1 (Nat.pow_le_pow_right (by decide) h)
theorem le_of_len_toL {n m : Nat} (h : m < (toL n).length) : 4294967296 ^ m ≤ n := by
  rcases Nat.lt_or_ge n (4294967296 ^ m) with h1 | h1
  · have := len_toL_le h1; omega
  · exact h1
theorem vL_take_add (l : List Int) (k : Nat) (hk : k ≤ l.length) : vL l = vL (l.take k) + 4294967296 ^ k * vL (l.drop k) := by
  have e := vL_append (l.take k) (l.drop k)
  rw [List.take_append_drop, List.length_take, Nat.min_eq_left hk] at e
  exact e
theorem vL_set (l : List Int) (i : Nat) (hi : i < l.length) (x : Int) : vL (l.set i x) + 4294967296 ^ i * (l[i]).toNat = vL l + 4294967296 ^ i * x.toNat := by
  induction l generalizing i with
  | nil => simp at hi
  | cons y l ih =>
    cases i with
    | zero => simp [vL_cons]; omega
    | succ i =>
      have := ih i (by simpa using hi)
      rw [List.set_cons_succ, vL_cons, vL_cons, Nat.pow_succ, List.getElem_cons_succ]
      have e1 : 4294967296 ^ i * 4294967296 * (l[i]'(by simpa using hi)).toNat = 4294967296 * (4294967296 ^ i * (l[i]'(by simpa using hi)).toNat) := by rw [Nat.mul_right_comm, Nat.mul_comm]
      have e2 : 4294967296 ^ i * 4294967296 * x.toNat = 4294967296 * (4294967296 ^ i * x.toNat) := by rw [Nat.mul_right_comm, Nat.mul_comm]
      rw [e1, e2]
      omega
end Go.Proofs.Ytkmblomkocfldaa.Sp

/- Small laws that the functions' laws use: numbers that are not wrapped, what stands at an index, a string's digits. Plain laws. -/
set_option linter.unusedVariables false
namespace Go.Proofs.Ytkmblomkocfldaa.Sp
open Go.RowKit Go.Proofs.YtkmblomkocfldaaW.PrintWords Go.Proofs.YtkmblomkocfldaaW.PrintMore

theorem w64 {n : Int} (h0 : -9223372036854775808 ≤ n) (h1 : n ≤ 9223372036854775807) : wrap64 n = n := by unfold wrap64; omega
theorem u64w {n : Int} (h0 : 0 ≤ n) (h1 : n < 18446744073709551616) : IntKind.u64.wrap n = n := by rw [IntKind.wrap_u64]; omega
theorem rd_lt {l : List Int} {i : Int} (h : i.toNat < l.length) : rd l i = l[i.toNat] := by
  unfold rd; rw [List.getD_eq_getElem?_getD, List.getElem?_eq_getElem h, Option.getD_some]
theorem rd_nat {l : List Int} {i : Nat} (h : i < l.length) : rd l (i : Int) = l[i] := by
  rw [rd_lt (by simpa using h)]; simp
theorem bt_nat {s : ByteArray} {i : Nat} (h : i < s.data.toList.length) : bt s (i : Int) = ((s.data.toList[i]).toNat : Int) := by
  have h2 : i < s.size := by rwa [Array.length_toList] at h
  unfold bt
  rw [dif_pos (by simpa using h2)]
  rfl
theorem len_data (s : ByteArray) : s.data.toList.length = s.size := by rw [Array.length_toList]; rfl
theorem toList_nil (s : ByteArray) : s.toList = [] ↔ s.data.toList = [] := by rw [Lib.toList_data]
theorem drop_data (s : ByteArray) (a : Nat) : (s.extract a s.size).data.toList = s.data.toList.drop a := by
  rw [Lib.extract_data, List.take_of_length_le]
  rw [List.length_drop, len_data]
  exact Nat.le_refl _
theorem strip0_cons0 (l : List UInt8) : strip0 (0 :: l) = strip0 l := rfl
theorem strip0_lead {c : UInt8} (h : c ≠ 0) (l : List UInt8) : strip0 (c :: l) = c :: l := by
  unfold strip0; rw [List.dropWhile_cons, if_neg (by simpa using h)]
theorem magOf_strip (s : ByteArray) : (magOf (vS s)).data.toList = strip0 s.data.toList := by rw [magOf_data]; exact toB_vB _
theorem or_join {k : Nat} {x y : Int} (hx : 0 ≤ x) (hx2 : x % 2 ^ k = 0) (hy : 0 ≤ y) (hy2 : y < 2 ^ k) (hxM : x < 18446744073709551616) (hyM : y < 18446744073709551616) : Go.bits .or .u64 x y = x + y := by
  obtain ⟨a, rfl⟩ := Int.eq_ofNat_of_zero_le hx
  obtain ⟨b, rfl⟩ := Int.eq_ofNat_of_zero_le hy
  rw [u64_or_nat _ _ (by omega) (by omega), nat_join k a b (by exact_mod_cast hx2) (by exact_mod_cast hy2)]
  omega
theorem or_join32 {k : Nat} {x y : Int} (hx : 0 ≤ x) (hx2 : x % 2 ^ k = 0) (hy : 0 ≤ y) (hy2 : y < 2 ^ k) (hxM : x < 4294967296) (hyM : y < 4294967296) : Go.bits .or .u32 x y = x + y := by
  obtain ⟨a, rfl⟩ := Int.eq_ofNat_of_zero_le hx
  obtain ⟨b, rfl⟩ := Int.eq_ofNat_of_zero_le hy
  rw [u32_or_nat _ _ (by omega) (by omega), nat_join k a b (by exact_mod_cast hx2) (by exact_mod_cast hy2)]
  omega
/-- A function that has rounds comes to a result, at some number of rounds. -/
def To {α : Type} (g : Nat → Option α) (r : α) : Prop := ∃ k, g k = some r
theorem To.bind {α β : Type} {g : Nat → Option α} {f : Nat → α → Option β} (hg : ∀ k, LeO (g k) (g (k + 1))) (hf : ∀ x k, LeO (f k x) (f (k + 1) x)) {a : α} {r : β} (h : To g a) (k : To (fun n => f n a) r) : To (fun n => (g n).bind (f n)) r := by
  obtain ⟨m, hm⟩ := h
  obtain ⟨n, hn⟩ := k
  refine ⟨max m n, ?_⟩
  show (g (max m n)).bind (f (max m n)) = some r
  rw [at_rounds hg (Nat.le_max_left m n) hm, Option.bind_some]
  exact at_rounds (g := fun n => f n a) (hf a) (Nat.le_max_right m n) hn
theorem To.at {α : Type} {g : Nat → Option α} {r : α} (hg : ∀ k, LeO (g k) (g (k + 1))) (h : To g r) : ∃ K, ∀ k, K ≤ k → g k = some r := by
  obtain ⟨m, hm⟩ := h
  exact ⟨m, fun k hk => at_rounds hg hk hm⟩
end Go.Proofs.Ytkmblomkocfldaa.Sp

/- The plain laws of the printed functions strip, load, trim, store, pack, compare: what they compute, as numbers. -/
set_option linter.unusedVariables false
namespace Go.Proofs.Ytkmblomkocfldaa.F
open Go.RowKit Go.Proofs.Ytkmblomkocfldaa.Sp Go.Proofs.YtkmblomkocfldaaW.PrintWords Go.Proofs.YtkmblomkocfldaaW.PrintMore

/-! ### strip -/
theorem strip_l (n : Nat) : ∀ (s : ByteArray), s.size = n → ∀ k, n < k → bigint_strip.l0 k s = some (magOf (vS s)) := by
  induction n with
  | zero =>
    intro s hs k hk
    obtain ⟨k, rfl⟩ : ∃ m, k = m + 1 := ⟨k - 1, by omega⟩
    have hd : s.data.toList = [] := List.length_eq_zero_iff.1 (by rw [len_data, hs])
    simp only [bigint_strip.l0]
    rw [if_pos ((toList_nil s).2 hd)]
    congr 1
    apply bytes_ext
    rw [magOf_strip, hd]; rfl
  | succ n ih =>
    intro s hs k hk
    obtain ⟨k, rfl⟩ : ∃ m, k = m + 1 := ⟨k - 1, by omega⟩
    obtain ⟨c, t, hd⟩ : ∃ c t, s.data.toList = c :: t := by
      cases h : s.data.toList with
      | nil => have := len_data s; rw [h, hs] at this; simp at this
      | cons c t => exact ⟨c, t, rfl⟩
    have h0 : bt s 0 = (c.toNat : Int) := by
      have := bt_nat (s := s) (i := 0) (by rw [hd]; simp)
      simpa [hd] using this
    simp only [bigint_strip.l0]
    rw [if_neg (by rw [toList_nil, hd]; simp), if_pos (by omega)]
    by_cases hc : c = 0
    · subst hc
      rw [if_pos (by rw [h0]; rfl), if_pos (by omega), ih (s.extract 1 s.size) (by rw [← len_data, drop_data, hd]; have := len_data s; rw [hd, hs] at this; simpa using this) k (by omega)]
      congr 1
      apply bytes_ext
      rw [magOf_strip, magOf_strip, drop_data, hd]; rfl
    · rw [if_neg (by
        rw [h0]
        intro e
        exact hc (UInt8.toNat_inj.1 (by have : c.toNat = 0 := by omega
                                        simpa using this)))]
      congr 1
      apply bytes_ext
      rw [magOf_strip, hd, strip0_lead hc]
theorem strip_to (s : ByteArray) : To (fun k => bigint_strip.f k s) (magOf (vS s)) := ⟨s.size + 1, strip_l s.size s rfl _ (by omega)⟩

/-! ### limbs: canonical forms -/
theorem eq_toL {l : List Int} (h : okL l) (ht : l ≠ [] → 4294967296 ^ (l.length - 1) ≤ vL l) : l = toL (vL l) := by
  refine (toL_vL h ?_).symm
  intro hl h0
  have e := List.dropLast_concat_getLast hl
  have h1 := ht hl
  rw [← e, vL_append, h0] at h1
  have h2 := vL_lt (l := l.dropLast) (by rw [← e, okL_append] at h; exact h.1)
  simp [vL_cons, vL_nil] at h1 h2
  omega
theorem limb_le {l : List Int} (h : okL l) (i : Nat) (hi : i < l.length) : 4294967296 ^ i * (l[i]).toNat ≤ vL l := by
  have h1 := vL_set l i hi 0
  simp at h1
  omega

/-! ### load -/
theorem pow4 (q r : Nat) : (256 : Nat) ^ (4 * q + r) = 4294967296 ^ q * 256 ^ r := by
  rw [Nat.pow_add, Nat.pow_mul]
theorem pow8 (r : Nat) : (2 : Nat) ^ (8 * r) = 256 ^ r := by rw [Nat.pow_mul]
theorem ld1 (n i : Nat) (h : i < n) (hn : n ≤ 140737488355328) : wrap64 ((wrap64 ((n : Int) - 1)) - (i : Int)) = ((n - 1 - i : Nat) : Int) := by
  rw [show wrap64 ((n : Int) - 1) = (n : Int) - 1 from w64 (by omega) (by omega)]
  exact (w64 (by omega) (by omega)).trans (by omega)
theorem ld2 (i : Nat) : Int.tdiv (i : Int) 4 = ((i / 4 : Nat) : Int) := by rw [Int.tdiv_eq_ediv_of_nonneg (by omega)]; rfl
theorem ld3 (i : Nat) : Int.tmod (i : Int) 4 = ((i % 4 : Nat) : Int) := by rw [Int.tmod_eq_emod_of_nonneg (by omega)]; rfl
theorem ld4 (i : Nat) (h : i ≤ 140737488355328) : wrap64 (((i / 4 : Nat) : Int)) = ((i / 4 : Nat) : Int) := w64 (by omega) (by omega)
theorem ld5 (i : Nat) : wrap64 (8 * ((i % 4 : Nat) : Int)) = ((8 * (i % 4) : Nat) : Int) := (w64 (by omega) (by omega)).trans (by omega)
theorem ld6 (i : Nat) (h : i ≤ 140737488355328) : wrap64 ((i : Int) + 1) = ((i + 1 : Nat) : Int) := (w64 (by omega) (by omega)).trans (by omega)
theorem load_l (t : ByteArray) (hsz : t.size ≤ 140737488355328) (d : Nat) : ∀ (k i : Nat) (out : List Int), i + d = t.size → d < k → okL out → out.length = (t.size + 3) / 4 →
    vL out = vB (t.data.toList.drop (t.size - i)) → ∃ r, bigint_load.l0 k t out (t.size : Int) (i : Int) = some r ∧ okL r ∧ r.length = (t.size + 3) / 4 ∧ vL r = vS t := by
  induction d with
  | zero =>
    intro k i out hi hk hok hlen hv
    obtain ⟨k, rfl⟩ : ∃ m, k = m + 1 := ⟨k - 1, by omega⟩
    refine ⟨out, ?_, hok, hlen, ?_⟩
    · simp only [bigint_load.l0]; rw [if_neg (by omega)]
    · rw [hv, show t.size - i = 0 by omega]; rfl
  | succ d ih =>
    intro k i out hi hk hok hlen hv
    obtain ⟨k, rfl⟩ : ∃ m, k = m + 1 := ⟨k - 1, by omega⟩
    have hqi : i / 4 < out.length := by omega
    have hbi : t.size - 1 - i < t.data.toList.length := by rw [len_data]; omega
    have hrd : rd out ((i / 4 : Nat) : Int) = out[i / 4] := rd_nat hqi
    have hb := bt_nat (s := t) hbi
    have ho := hok _ (List.getElem_mem hqi)
    have hc := (t.data.toList[t.size - 1 - i]).toNat_lt
    have hdrop : t.data.toList.drop (t.size - (i + 1)) = t.data.toList[t.size - 1 - i] :: t.data.toList.drop (t.size - i) := by
      rw [show t.size - (i + 1) = t.size - 1 - i by omega, List.drop_eq_getElem_cons hbi, show t.size - 1 - i + 1 = t.size - i by omega]
    generalize t.data.toList[t.size - 1 - i] = c at *
    have hdl : (t.data.toList.drop (t.size - i)).length = i := by rw [List.length_drop, len_data]; omega
    have hpow : (256 : Nat) ^ i = 4294967296 ^ (i / 4) * 256 ^ (i % 4) := by rw [← pow4]; congr 1; omega
    have hlow : (out[i / 4]).toNat < 256 ^ (i % 4) := by
      have h1 := limb_le hok (i / 4) hqi
      have h2 := vB_lt (t.data.toList.drop (t.size - i))
      rw [hdl, ← hv, hpow] at h2
      exact Nat.lt_of_mul_lt_mul_left (Nat.lt_of_le_of_lt h1 h2)
    have h256 : (256 : Nat) ^ (i % 4) ≤ 16777216 := by
      have : i % 4 ≤ 3 := by omega
      exact Nat.pow_le_pow_right (by decide) this
    have hmul : c.toNat * 256 ^ (i % 4) ≤ 255 * 256 ^ (i % 4) := Nat.mul_le_mul_right _ (by omega)
    have hsh : shl .u32 ((bt t ((t.size - 1 - i : Nat) : Int)) % 4294967296) ((8 * (i % 4) : Nat) : Int) = ((c.toNat * 256 ^ (i % 4) : Nat) : Int) := by
      unfold shl
      rw [hb, IntKind.wrap_u32, Int.toNat_natCast]
      have h1 : min (8 * (i % 4)) IntKind.u32.bits = 8 * (i % 4) := Nat.min_eq_left (by simp [IntKind.bits]; omega)
      have h2 : ((c.toNat : Int) % 4294967296) = (c.toNat : Int) := by omega
      have h3 : ((2 : Int) ^ (8 * (i % 4))) = ((256 ^ (i % 4) : Nat) : Int) := by rw [← pow8]; norm_cast
      rw [h1, h2, h3, ← Int.natCast_mul]
      exact Int.emod_eq_of_lt (by omega) (by omega)
    have hor : Go.bits .or .u32 (out[i / 4]) (((c.toNat * 256 ^ (i % 4) : Nat) : Int)) = ((out[i / 4].toNat + c.toNat * 256 ^ (i % 4) : Nat) : Int) := by
      obtain ⟨a, ha⟩ := Int.eq_ofNat_of_zero_le ho.1
      rw [ha] at hlow ⊢
      simp only [Int.toNat_natCast] at hlow ⊢
      rw [u32_or_nat _ _ (by omega) (by omega), Nat.or_comm, nat_join (8 * (i % 4)) _ _ (by rw [pow8, Nat.mul_mod_left]) (by rw [pow8]; exact hlow), Nat.add_comm]
    have hnew : (0 : Int) ≤ ((out[i / 4].toNat + c.toNat * 256 ^ (i % 4) : Nat) : Int) ∧ ((out[i / 4].toNat + c.toNat * 256 ^ (i % 4) : Nat) : Int) < 4294967296 := by omega
    obtain ⟨r, hr1, hr2⟩ := ih k (i + 1) (out.set (i / 4) ((out[i / 4].toNat + c.toNat * 256 ^ (i % 4) : Nat) : Int)) (by omega) (by omega) (okL_set hok _ _ hnew.1 hnew.2) (by rw [List.length_set]; exact hlen) (by
      have h1 := vL_set out (i / 4) hqi ((out[i / 4].toNat + c.toNat * 256 ^ (i % 4) : Nat) : Int)
      rw [Int.toNat_natCast, Nat.mul_add, ← Nat.mul_assoc, Nat.mul_right_comm, ← hpow, hv] at h1
      rw [hdrop, vB_cons, hdl]
      have e := Nat.mul_comm (256 ^ i) c.toNat
      omega)
    refine ⟨r, ?_, hr2⟩
    simp only [bigint_load.l0]
    rw [ld2, ld3, ld4 i (by omega), ld1 t.size i (by omega) (by omega), ld5, ld6 i (by omega), hrd, hsh, hor]
    rw [if_pos (by omega), if_pos (by omega), if_pos (by omega), if_pos (by omega), if_pos (by omega), if_pos (by omega)]
    rw [Int.toNat_natCast]
    exact hr1
theorem load_to (s : ByteArray) (hs : s.size ≤ 140737488355328) : To (fun k => bigint_load.f k s) (toL (vS s)) := by
  unfold bigint_load.f
  refine To.bind (bigint_strip.mono _) (fun x k => ?_) (strip_to s) ?_
  · exact LeO.ite (LeO.ite (bigint_load.mono_l k _ _ _ _) (LeO.none _)) (LeO.none _)
  have hsz : (magOf (vS s)).size ≤ s.size := size_magOf_le (vS_lt s)
  have hL : ((magOf (vS s)).size + 4 - 1) / 4 = ((magOf (vS s)).size + 3) / 4 := by omega
  have hw : wrap64 (Int.tdiv (wrap64 ((wrap64 (((magOf (vS s)).size : Int) + 4)) - 1)) 4) = ((((magOf (vS s)).size + 3) / 4 : Nat) : Int) := by
    rw [show wrap64 ((wrap64 (((magOf (vS s)).size : Int) + 4)) - 1) = ((magOf (vS s)).size : Int) + 3 from by unfold wrap64; omega, Int.tdiv_eq_ediv_of_nonneg (by omega)]
    unfold wrap64
    omega
  obtain ⟨r, h1, h2, h3, h4⟩ := load_l (magOf (vS s)) (by omega) (magOf (vS s)).size ((magOf (vS s)).size + 1) 0 (List.replicate (((magOf (vS s)).size + 3) / 4) 0) (by omega) (by omega) (okL_replicate _) (by simp) (by
    rw [vL_replicate, Nat.sub_zero, List.drop_of_length_le (by rw [len_data]; exact Nat.le_refl _)]; rfl)
  refine ⟨(magOf (vS s)).size + 1, ?_⟩
  show (if 0 ≤ _ then _ else _) = _
  rw [hw, if_pos (by omega), Int.toNat_natCast, if_pos (by omega)]
  refine Eq.trans h1 (congrArg some ?_)
  rw [vS_magOf] at h4
  rw [← h4]
  apply eq_toL h2
  intro hne
  rw [h4, h3]
  have hpos : 0 < (magOf (vS s)).size := by
    rcases Nat.eq_zero_or_pos (magOf (vS s)).size with h | h
    · rw [h] at h3; exact absurd (List.length_eq_zero_iff.1 h3) hne
    · exact h
  have h5 : 256 ^ ((magOf (vS s)).size - 1) ≤ vS s := by rw [size_magOf] at hpos ⊢; exact le_of_len_toB (by omega)
  refine Nat.le_trans ?_ h5
  rw [show (4294967296 : Nat) = 256 ^ 4 from rfl, ← Nat.pow_mul]
  exact Nat.pow_le_pow_right (by decide) (by omega)

/-! ### trim, store, pack -/
theorem trim_l (n : Nat) : ∀ (l : List Int), l.length = n → n ≤ 140737488355328 → okL l → ∀ k, n < k → bigint_limbs_trim.l0 k l = some (toL (vL l)) := by
  induction n with
  | zero =>
    intro l hl hn hok k hk
    obtain ⟨k, rfl⟩ : ∃ m, k = m + 1 := ⟨k - 1, by omega⟩
    simp only [bigint_limbs_trim.l0]
    rw [if_neg (by omega), List.length_eq_zero_iff.1 hl, vL_nil, toL_zero]
  | succ n ih =>
    intro l hl hn hok k hk
    obtain ⟨k, rfl⟩ : ∃ m, k = m + 1 := ⟨k - 1, by omega⟩
    have e1 : wrap64 ((l.length : Int) - 1) = (n : Int) := by unfold wrap64; omega
    have hrd : rd l (n : Int) = l[n] := rd_nat (by omega)
    have hne : l ≠ [] := fun e => by rw [e] at hl; simp at hl
    have hlast : l.getLast hne = l[n] := by rw [List.getLast_eq_getElem]; congr 1; omega
    simp only [bigint_limbs_trim.l0]
    rw [e1, hrd, if_pos (by omega), if_pos (by omega), if_pos (by omega)]
    by_cases h0 : l[n] = 0
    · rw [if_pos h0, if_pos (by omega), Int.toNat_natCast, ih (l.take n) (by rw [List.length_take]; omega) (by omega) (okL_take hok n) k (by omega)]
      congr 2
      have h1 := vL_take_add l n (by omega)
      have h2 : l.drop n = [0] := by rw [List.drop_eq_getElem_cons (by omega), h0, List.drop_of_length_le (by omega)]
      rw [h2] at h1
      simpa [vL_cons, vL_nil] using h1.symm
    · rw [if_neg h0]
      congr 1
      exact (toL_vL hok (fun hh => by rw [hlast]; exact h0)).symm
theorem trim_to {l : List Int} (hl : l.length ≤ 140737488355328) (hok : okL l) : To (fun k => bigint_limbs_trim.f k l) (toL (vL l)) :=
  ⟨l.length + 1, trim_l l.length l rfl hl hok _ (by omega)⟩
theorem ofNums_digit (x : Int) (h0 : 0 ≤ x) (h1 : x < 256) : (UInt8.ofNat x.toNat).toNat = x.toNat := by simp [UInt8.toNat_ofNat']; omega
theorem store_l (l : List Int) (hl : l.length ≤ 17592186044416) (hok : okL l) (d : Nat) : ∀ (k : Nat) (out : List Int), d ≤ l.length → d + 1 < k → out.length = 4 * (l.length - d) →
    vB (strOfNums out).data.toList = vL (l.drop d) → bigint_limbs_store.l0 k l out ((d : Int) - 1) = bigint_limbs_store.l0 k l out ((d : Int) - 1) ∧ ∃ m, bigint_limbs_store.l0 (k + m) l out ((d : Int) - 1) = some (magOf (vL l)) := by
  induction d with
  | zero =>
    intro k out hd hk hlen hv
    obtain ⟨k, rfl⟩ : ∃ m, k = m + 1 := ⟨k - 1, by omega⟩
    refine ⟨rfl, (strOfNums out).size + 1, ?_⟩
    rw [show k + 1 + ((strOfNums out).size + 1) = (k + (strOfNums out).size + 1) + 1 by omega]
    simp only [bigint_limbs_store.l0]
    rw [if_neg (by omega)]
    have h1 : bigint_strip.f (k + (strOfNums out).size + 1) (strOfNums out) = some (magOf (vS (strOfNums out))) := strip_l _ _ rfl _ (by omega)
    rw [h1, Option.bind_some]
    have : vS (strOfNums out) = vL l := by unfold vS; rw [hv]; rfl
    rw [this]
  | succ d ih =>
    intro k out hd hk hlen hv
    obtain ⟨k, rfl⟩ : ∃ m, k = m + 1 := ⟨k - 1, by omega⟩
    refine ⟨rfl, ?_⟩
    have hrd : rd l (d : Int) = l[d] := rd_nat (by omega)
    have ho := hok _ (List.getElem_mem (show d < l.length by omega))
    have e1 : ((d + 1 : Nat) : Int) - 1 = (d : Int) := by omega
    have e2 : wrap64 ((d : Int) - 1) = (d : Int) - 1 := w64 (by omega) (by omega)
    obtain ⟨_, m, hm⟩ := ih k (out ++ [(l[d] / 16777216) % 256, (l[d] / 65536) % 256, (l[d] / 256) % 256, l[d] % 256]) (by omega) (by omega) (by simp; omega) (by
      have h2 : l.drop d = l[d] :: l.drop (d + 1) := List.drop_eq_getElem_cons (by omega)
      rw [h2, vL_cons]
      simp only [strOfNums, List.map_append, List.map_cons, List.map_nil] at hv ⊢
      have h3 : ∀ (a b c e : UInt8) (xs : List UInt8), xs ++ [a, b, c, e] = xs ++ [a] ++ [b] ++ [c] ++ [e] := fun a b c e xs => by simp
      rw [h3, vB_snoc, vB_snoc, vB_snoc, vB_snoc, hv, ofNums_digit _ (by omega) (by omega), ofNums_digit _ (by omega) (by omega), ofNums_digit _ (by omega) (by omega), ofNums_digit _ (by omega) (by omega)]
      omega)
    refine ⟨m, ?_⟩
    rw [show k + 1 + m = k + m + 1 by omega]
    simp only [bigint_limbs_store.l0]
    rw [e1, hrd, e2, if_pos (by omega), if_pos (by omega), if_pos (by omega), Option.bind_some, if_pos (by simp; omega)]
    exact hm
theorem store_to {l : List Int} (hl : l.length ≤ 17592186044416) (hok : okL l) : To (fun k => bigint_limbs_store.f k l) (magOf (vL l)) := by
  obtain ⟨_, m, hm⟩ := store_l l hl hok l.length (l.length + 2) [] (Nat.le_refl _) (by omega) (by simp) (by rw [List.drop_of_length_le (Nat.le_refl _)]; rfl)
  refine ⟨l.length + 2 + m, ?_⟩
  show bigint_limbs_store.l0 _ l [] _ = _
  rw [show wrap64 ((l.length : Int) - 1) = (l.length : Int) - 1 from w64 (by omega) (by omega)]
  exact hm
theorem isEmpty_magOf (n : Nat) : (magOf n).toList.isEmpty = decide (n = 0) := by
  rw [Lib.toList_data, magOf_data, Bool.eq_iff_iff, List.isEmpty_iff, toB_nil_iff, decide_eq_true_iff]
theorem len_toL_small {n m : Nat} (l : List Int) (h : okL l) : (toL (vL l)).length ≤ l.length := len_toL_le (vL_lt h)
theorem pack_to (neg : Bool) {l : List Int} (hl : l.length ≤ 17592186044416) (hok : okL l) : To (fun k => bigint_pack.f k neg l) (neg && decide (vL l ≠ 0), magOf (vL l)) := by
  unfold bigint_pack.f
  refine To.bind (bigint_limbs_trim.mono _) (fun x k => ?_) (trim_to (by omega) hok) ?_
  · exact LeO.bind (bigint_limbs_store.mono _ k) (fun _ => LeO.refl _)
  have h1 : (toL (vL l)).length ≤ l.length := len_toL_le (vL_lt hok)
  refine To.bind (bigint_limbs_store.mono _) (fun x k => LeO.refl _) (store_to (by omega) (okL_toL _)) ?_
  refine ⟨0, ?_⟩
  show (if _ then _ else _) = _
  rw [vL_toL]
  cases neg
  · simp
  · rw [if_pos rfl, isEmpty_magOf]; simp

/-! ### compare -/
def cmpN (a b : Nat) : Int := if a < b then -1 else if b < a then 1 else 0
theorem cmp_l (l m : List Int) (hl : okL l) (hm : okL m) (he : l.length = m.length) (hs : l.length ≤ 17592186044416) (d : Nat) : ∀ k, d ≤ l.length → d < k → l.drop d = m.drop d →
    bigint_limbs_compare.l0 k l m ((d : Int) - 1) = some (cmpN (vL l) (vL m)) := by
  induction d with
  | zero =>
    intro k hd hk hdr
    obtain ⟨k, rfl⟩ : ∃ m, k = m + 1 := ⟨k - 1, by omega⟩
    simp only [bigint_limbs_compare.l0]
    rw [if_neg (by omega)]
    have : l = m := by simpa using hdr
    rw [this]; unfold cmpN; simp
  | succ d ih =>
    intro k hd hk hdr
    obtain ⟨k, rfl⟩ : ∃ m, k = m + 1 := ⟨k - 1, by omega⟩
    have e1 : ((d + 1 : Nat) : Int) - 1 = (d : Int) := by omega
    have e2 : wrap64 ((d : Int) - 1) = (d : Int) - 1 := w64 (by omega) (by omega)
    have r1 : rd l (d : Int) = l[d] := rd_nat (by omega)
    have r2 : rd m (d : Int) = m[d] := rd_nat (by omega)
    have d1 : l.drop d = l[d] :: l.drop (d + 1) := List.drop_eq_getElem_cons (by omega)
    have d2 : m.drop d = m[d] :: m.drop (d + 1) := List.drop_eq_getElem_cons (by omega)
    have v1 := vL_take_add l d (by omega)
    have v2 := vL_take_add m d (by omega)
    have t1 := vL_lt (okL_take hl d)
    have t2 := vL_lt (okL_take hm d)
    rw [List.length_take, Nat.min_eq_left (by omega)] at t1 t2
    have o1 := hl _ (List.getElem_mem (show d < l.length by omega))
    have o2 := hm _ (List.getElem_mem (show d < m.length by omega))
    rw [d1, vL_cons] at v1
    rw [d2, vL_cons, ← hdr] at v2
    simp only [bigint_limbs_compare.l0]
    rw [e1, e2, r1, r2, if_pos (by omega), if_pos (by omega), if_pos (by omega), if_pos (by omega)]
    generalize vL (l.drop (d + 1)) = D at *
    by_cases h1 : l[d] < m[d]
    · rw [if_pos h1]
      have h2 : (l[d]).toNat + 4294967296 * D + 1 ≤ (m[d]).toNat + 4294967296 * D := by omega
      have h3 := Nat.mul_le_mul_left (4294967296 ^ d) h2
      rw [Nat.mul_add, Nat.mul_one] at h3
      unfold cmpN
      rw [if_pos (by omega)]
    · rw [if_neg h1]
      by_cases h4 : l[d] > m[d]
      · rw [if_pos h4]
        have h2 : (m[d]).toNat + 4294967296 * D + 1 ≤ (l[d]).toNat + 4294967296 * D := by omega
        have h3 := Nat.mul_le_mul_left (4294967296 ^ d) h2
        rw [Nat.mul_add, Nat.mul_one] at h3
        unfold cmpN
        rw [if_neg (by omega), if_pos (by omega)]
      · rw [if_neg h4]
        have heq : l[d] = m[d] := by omega
        exact ih k (by omega) (by omega) (by rw [d1, d2, heq, hdr])
theorem compare_to (a b : Nat) (hs : (toL a).length ≤ 17592186044416) : To (fun k => bigint_limbs_compare.f k (toL a) (toL b)) (cmpN a b) := by
  unfold bigint_limbs_compare.f
  by_cases h : (toL a).length = (toL b).length
  · refine ⟨(toL a).length + 1, ?_⟩
    show (if _ then _ else _) = _
    rw [if_pos (by omega), show wrap64 (((toL a).length : Int) - 1) = ((toL a).length : Int) - 1 from w64 (by omega) (by omega), cmp_l _ _ (okL_toL a) (okL_toL b) h hs _ _ (Nat.le_refl _) (by omega) (by rw [List.drop_of_length_le (Nat.le_refl _), List.drop_of_length_le (by omega)]), vL_toL, vL_toL]
  · refine ⟨0, ?_⟩
    show (if _ then _ else _) = _
    rw [if_neg (by omega)]
    by_cases h2 : (toL a).length < (toL b).length
    · rw [if_pos (by omega)]
      have := le_of_len_toL h2
      have h3 := lt_of_len_toL (Nat.le_refl (toL a).length)
      unfold cmpN
      rw [if_pos (by omega)]
    · rw [if_neg (by omega)]
      have := le_of_len_toL (show (toL b).length < (toL a).length by omega)
      have h3 := lt_of_len_toL (Nat.le_refl (toL b).length)
      unfold cmpN
      rw [if_neg (by omega), if_pos (by omega)]
end Go.Proofs.Ytkmblomkocfldaa.F

/- The plain laws of the printed functions plus, minus, times, muladd: sums, differences and products of numbers told by limbs. -/
set_option linter.unusedVariables false
namespace Go.Proofs.Ytkmblomkocfldaa.F
open Go.RowKit Go.Proofs.Ytkmblomkocfldaa.Sp Go.Proofs.YtkmblomkocfldaaW.PrintWords Go.Proofs.YtkmblomkocfldaaW.PrintMore

theorem vL_take_succ (l : List Int) (i : Nat) (hi : i < l.length) : vL (l.take (i + 1)) = vL (l.take i) + 4294967296 ^ i * (l[i]).toNat := by
  rw [List.take_succ_eq_append_getElem hi, vL_append, List.length_take, Nat.min_eq_left (by omega), vL_cons, vL_nil]; simp
theorem vL_snoc (l : List Int) (x : Int) : vL (l ++ [x]) = vL l + 4294967296 ^ l.length * x.toNat := by rw [vL_append, vL_cons, vL_nil]; simp
theorem take_set_succ (l : List Int) (i : Nat) (hi : i < l.length) (x : Int) : (l.set i x).take (i + 1) = l.take i ++ [x] := by
  rw [List.take_succ_eq_append_getElem (by simpa using hi), List.getElem_set_self, List.take_set_of_le (Nat.le_refl _)]
theorem nat_of {x : Int} (h : 0 ≤ x) : ∃ a : Nat, x = (a : Int) := Int.eq_ofNat_of_zero_le h
theorem limb_nat {l : List Int} (h : okL l) (i : Nat) (hi : i < l.length) : ∃ a : Nat, a < 4294967296 ∧ l[i] = (a : Int) := by
  have := h _ (List.getElem_mem hi)
  obtain ⟨a, ha⟩ := nat_of this.1
  exact ⟨a, by omega, ha⟩
theorem u64n {a : Nat} (h : a < 18446744073709551616) : IntKind.u64.wrap (a : Int) = (a : Int) := u64w (by omega) (by omega)
theorem mac {c a b : Nat} (ha : a < 4294967296) (hb : b < 4294967296) (h : c + a * b < 18446744073709551616) : IntKind.u64.wrap ((c : Int) + IntKind.u64.wrap (IntKind.u64.wrap (a : Int) * IntKind.u64.wrap (b : Int))) = ((c + a * b : Nat) : Int) := by
  rw [u64n (a := a) (by omega), u64n (a := b) (by omega), ← Int.natCast_mul, u64n (by omega), ← Int.natCast_add, u64n h]
theorem add2 {c a : Nat} (ha : a < 4294967296) (h : c + a < 18446744073709551616) : IntKind.u64.wrap ((c : Int) + IntKind.u64.wrap (a : Int)) = ((c + a : Nat) : Int) := by
  rw [u64n (a := a) (by omega), ← Int.natCast_add, u64n h]
theorem modN (n : Nat) : ((n : Nat) : Int) % 4294967296 = ((n % 4294967296 : Nat) : Int) := rfl
theorem divN (n : Nat) : ((n : Nat) : Int) / 4294967296 = ((n / 4294967296 : Nat) : Int) := rfl
theorem succ64 (i : Nat) (h : i ≤ 140737488355328) : wrap64 ((i : Int) + 1) = ((i + 1 : Nat) : Int) := (w64 (by omega) (by omega)).trans (by omega)
theorem limbN (n : Nat) : (0 : Int) ≤ ((n % 4294967296 : Nat) : Int) ∧ ((n % 4294967296 : Nat) : Int) < 4294967296 := by omega
theorem carry_step {p n v c o : Nat} (h : v + p * c = o) : v + p * (n % 4294967296) + p * 4294967296 * (n / 4294967296) + p * c = o + p * n := by
  have e : p * (n % 4294967296) + p * 4294967296 * (n / 4294967296) = p * n := by
    rw [Nat.mul_assoc, ← Nat.mul_add, Nat.mod_add_div]
  omega

/-! ### plus -/
theorem plus_l (s l : List Int) (hs : okL s) (hl : okL l) (hsl : s.length ≤ l.length) (hb : l.length ≤ 17592186044416) (d : Nat) : ∀ (k i c : Nat) (out : List Int), i + d = l.length → okL out → out.length = i → c ≤ 1 →
    vL out + 4294967296 ^ i * c = vL (l.take i) + vL (s.take i) → (∃ m, bigint_limbs_plus_b.l0 (k + m) s out (c : Int) l (l.length : Int) (i : Int) = some (toL (vL l + vL s))) ∧ (∃ m, bigint_limbs_plus_a.l0 (k + m) s out (c : Int) l (l.length : Int) (i : Int) = some (toL (vL l + vL s))) := by
  induction d with
  | zero =>
    intro k i c out hi hok hlen hc hv
    have hfin : vL (out ++ [((c : Nat) : Int) % 4294967296]) = vL l + vL s := by
      rw [modN, vL_snoc, hlen, Int.toNat_natCast, Nat.mod_eq_of_lt (by omega), hv, List.take_of_length_le (by omega), List.take_of_length_le (by omega)]
    obtain ⟨m, hm⟩ := trim_to (l := out ++ [((c : Nat) : Int) % 4294967296]) (by simp; omega) (okL_append.2 ⟨hok, by rw [modN, okL_cons]; exact ⟨limbN c, okL_nil⟩⟩)
    rw [hfin] at hm
    have hm2 := at_rounds (bigint_limbs_trim.mono _) (Nat.le_add_left m k) hm
    refine ⟨⟨m + 1, ?_⟩, ⟨m + 1, ?_⟩⟩
    · rw [← Nat.add_assoc]; simp only [bigint_limbs_plus_b.l0]
      rw [if_neg (by omega), if_pos (by omega), hm2]; rfl
    · rw [← Nat.add_assoc]; simp only [bigint_limbs_plus_a.l0]
      rw [if_neg (by omega), if_pos (by omega), hm2]; rfl
  | succ d ih =>
    intro k i c out hi hok hlen hc hv
    have hil : i < l.length := by omega
    obtain ⟨a, ha, hea⟩ := limb_nat hl i hil
    have hra : rd l (i : Int) = (a : Int) := by rw [rd_nat hil, hea]
    have ht := vL_take_succ l i hil
    rw [hea, Int.toNat_natCast] at ht
    by_cases his : i < s.length
    · obtain ⟨b, hb2, heb⟩ := limb_nat hs i his
      have hrb : rd s (i : Int) = (b : Int) := by rw [rd_nat his, heb]
      have hts := vL_take_succ s i his
      rw [heb, Int.toNat_natCast] at hts
      have hn : IntKind.u64.wrap (IntKind.u64.wrap ((c : Int) + IntKind.u64.wrap (a : Int)) + IntKind.u64.wrap (b : Int)) = ((c + a + b : Nat) : Int) := by
        rw [add2 ha (by omega), add2 hb2 (by omega)]
      obtain ⟨⟨m, hm⟩, ⟨m', hm'⟩⟩ := ih k (i + 1) ((c + a + b) / 4294967296) (out ++ [(((c + a + b) % 4294967296 : Nat) : Int)]) (by omega) (okL_append.2 ⟨hok, by rw [okL_cons]; exact ⟨limbN _, okL_nil⟩⟩) (by simp [hlen]) (by omega) (by
        rw [vL_snoc, hlen, Int.toNat_natCast, Nat.pow_succ, ht, hts]
        have h1 := carry_step (n := c + a + b) hv
        simp only [Nat.mul_add] at h1 ⊢
        omega)
      refine ⟨⟨m + 1, ?_⟩, ⟨m' + 1, ?_⟩⟩
      · rw [← Nat.add_assoc]; simp only [bigint_limbs_plus_b.l0]
        rw [hra, hrb, hn, modN, divN, succ64 i (by omega), if_pos (by omega), if_pos (by omega), if_pos (by omega), if_pos (by omega), if_pos (by omega)]
        exact hm
      · rw [← Nat.add_assoc]; simp only [bigint_limbs_plus_a.l0]
        rw [hra, hrb, hn, modN, divN, succ64 i (by omega), if_pos (by omega), if_pos (by omega), if_pos (by omega), if_pos (by omega), if_pos (by omega)]
        exact hm'
    · have hts : vL (s.take (i + 1)) = vL (s.take i) := by rw [List.take_of_length_le (by omega), List.take_of_length_le (by omega)]
      obtain ⟨⟨m, hm⟩, ⟨m', hm'⟩⟩ := ih k (i + 1) ((c + a) / 4294967296) (out ++ [(((c + a) % 4294967296 : Nat) : Int)]) (by omega) (okL_append.2 ⟨hok, by rw [okL_cons]; exact ⟨limbN _, okL_nil⟩⟩) (by simp [hlen]) (by omega) (by
        rw [vL_snoc, hlen, Int.toNat_natCast, Nat.pow_succ, ht, hts]
        have h1 := carry_step (n := c + a) hv
        simp only [Nat.mul_add] at h1 ⊢
        omega)
      refine ⟨⟨m + 1, ?_⟩, ⟨m' + 1, ?_⟩⟩
      · rw [← Nat.add_assoc]; simp only [bigint_limbs_plus_b.l0]
        rw [hra, add2 ha (by omega), modN, divN, succ64 i (by omega), if_pos (by omega), if_pos (by omega), if_pos (by omega), if_neg (by omega), if_pos (by omega)]
        exact hm
      · rw [← Nat.add_assoc]; simp only [bigint_limbs_plus_a.l0]
        rw [hra, add2 ha (by omega), modN, divN, succ64 i (by omega), if_pos (by omega), if_pos (by omega), if_pos (by omega), if_neg (by omega), if_pos (by omega)]
        exact hm'
theorem plus_to {l m : List Int} (hl : okL l) (hm : okL m) (bl : l.length ≤ 17592186044416) (bm : m.length ≤ 17592186044416) : To (fun k => bigint_limbs_plus.f k l m) (toL (vL l + vL m)) := by
  unfold bigint_limbs_plus.f
  by_cases h : (l.length : Int) < (m.length : Int)
  · obtain ⟨_, ⟨k, hk⟩⟩ := plus_l l m hl hm (by omega) bm m.length 0 0 0 [] (by omega) okL_nil rfl (by omega) (by simp [vL_nil])
    refine ⟨0 + k, ?_⟩
    show (if _ then _ else _) = _
    rw [if_pos h]
    unfold bigint_limbs_plus_a.f
    rw [if_pos h, succ64 m.length (by omega), if_pos (by omega), if_pos (by omega), Nat.add_comm (vL l)]
    exact hk
  · obtain ⟨⟨k, hk⟩, _⟩ := plus_l m l hm hl (by omega) bl l.length 0 0 0 [] (by omega) okL_nil rfl (by omega) (by simp [vL_nil])
    refine ⟨0 + k, ?_⟩
    show (if _ then _ else _) = _
    rw [if_neg h]
    unfold bigint_limbs_plus_b.f
    rw [if_neg h, succ64 l.length (by omega), if_pos (by omega), if_pos (by omega)]
    exact hk

/-! ### muladd -/
theorem muladd_l (l : List Int) (by_ : Nat) (hl : okL l) (hb : l.length ≤ 17592186044416) (hby : by_ < 4294967296) (add : Nat) (d : Nat) : ∀ (k i c : Nat) (out : List Int), i + d = l.length → okL out → out.length = i → c < 4294967296 →
    vL out + 4294967296 ^ i * c = vL (l.take i) * by_ + add → (∃ m, bigint_limbs_muladd.l0 (k + m) (by_ : Int) out (c : Int) l (l.length : Int) (i : Int) = some (toL (vL l * by_ + add))) := by
  induction d with
  | zero =>
    intro k i c out hi hok hlen hc hv
    have hfin : vL (out ++ [((c : Nat) : Int) % 4294967296]) = vL l * by_ + add := by
      rw [modN, vL_snoc, hlen, Int.toNat_natCast, Nat.mod_eq_of_lt (by omega), hv, List.take_of_length_le (by omega)]
    obtain ⟨m, hm⟩ := trim_to (l := out ++ [((c : Nat) : Int) % 4294967296]) (by simp; omega) (okL_append.2 ⟨hok, by rw [modN, okL_cons]; exact ⟨limbN c, okL_nil⟩⟩)
    rw [hfin] at hm
    have hm2 := at_rounds (bigint_limbs_trim.mono _) (Nat.le_add_left m k) hm
    refine ⟨m + 1, ?_⟩
    rw [← Nat.add_assoc]; simp only [bigint_limbs_muladd.l0]
    rw [if_neg (by omega), if_pos (by omega), hm2]; rfl
  | succ d ih =>
    intro k i c out hi hok hlen hc hv
    have hil : i < l.length := by omega
    obtain ⟨a, ha, hea⟩ := limb_nat hl i hil
    have hra : rd l (i : Int) = (a : Int) := by rw [rd_nat hil, hea]
    have ht := vL_take_succ l i hil
    rw [hea, Int.toNat_natCast] at ht
    have hab : a * by_ ≤ 4294967295 * 4294967295 := Nat.mul_le_mul (by omega) (by omega)
    have hq : (c + a * by_) / 4294967296 < 4294967296 := by omega
    obtain ⟨m, hm⟩ := ih k (i + 1) ((c + a * by_) / 4294967296) (out ++ [(((c + a * by_) % 4294967296 : Nat) : Int)]) (by omega) (okL_append.2 ⟨hok, by rw [okL_cons]; exact ⟨limbN _, okL_nil⟩⟩) (by simp [hlen]) hq (by
      rw [vL_snoc, hlen, Int.toNat_natCast, Nat.pow_succ, ht]
      have h1 := carry_step (n := c + a * by_) hv
      simp only [Nat.mul_add, Nat.add_mul, Nat.mul_assoc] at h1 ⊢
      omega)
    refine ⟨m + 1, ?_⟩
    rw [← Nat.add_assoc]; simp only [bigint_limbs_muladd.l0]
    rw [hra, mac ha hby (by omega), modN, divN, succ64 i (by omega), if_pos (by omega), if_pos (by omega), if_pos (by omega), if_pos (by omega)]
    exact hm
theorem muladd_to {l : List Int} (hl : okL l) (bl : l.length ≤ 17592186044416) (b a : Nat) (hb : b < 4294967296) (ha : a < 4294967296) : To (fun k => bigint_limbs_muladd.f k l (b : Int) (a : Int)) (toL (vL l * b + a)) := by
  obtain ⟨k, hk⟩ := muladd_l l b hl bl hb a l.length 0 0 a [] (by omega) okL_nil rfl ha (by simp [vL_nil])
  refine ⟨0 + k, ?_⟩
  show bigint_limbs_muladd.f _ _ _ _ = _
  unfold bigint_limbs_muladd.f
  rw [succ64 l.length (by omega), if_pos (by omega), if_pos (by omega), u64n (by omega)]
  exact hk

/-! ### minus -/
theorem bit31 (x : Nat) (h : x < 4294967296) : x / 2147483648 = if 2147483648 ≤ x then 1 else 0 := by split <;> omega
theorem top_and (x y : Nat) (hx : x < 4294967296) (hy : y < 4294967296) : (x &&& y) / 2147483648 = x / 2147483648 * (y / 2147483648) := by
  rw [show (2147483648 : Nat) = 2 ^ 31 from rfl, Nat.and_div_two_pow, ← show (2147483648 : Nat) = 2 ^ 31 from rfl]
  rcases (show x / 2147483648 = 0 ∨ x / 2147483648 = 1 by omega) with h | h <;> rcases (show y / 2147483648 = 0 ∨ y / 2147483648 = 1 by omega) with h2 | h2 <;> rw [h, h2] <;> rfl
theorem top_or (x y : Nat) (hx : x < 4294967296) (hy : y < 4294967296) : (x ||| y) / 2147483648 = max (x / 2147483648) (y / 2147483648) := by
  rw [show (2147483648 : Nat) = 2 ^ 31 from rfl, Nat.or_div_two_pow, ← show (2147483648 : Nat) = 2 ^ 31 from rfl]
  rcases (show x / 2147483648 = 0 ∨ x / 2147483648 = 1 by omega) with h | h <;> rcases (show y / 2147483648 = 0 ∨ y / 2147483648 = 1 by omega) with h2 | h2 <;> rw [h, h2] <;> rfl
theorem top_xor (x y : Nat) (hx : x < 4294967296) (hy : y < 4294967296) : (x ^^^ y) / 2147483648 = (x / 2147483648 + y / 2147483648) % 2 := by
  rw [show (2147483648 : Nat) = 2 ^ 31 from rfl, Nat.xor_div_two_pow, ← show (2147483648 : Nat) = 2 ^ 31 from rfl]
  rcases (show x / 2147483648 = 0 ∨ x / 2147483648 = 1 by omega) with h | h <;> rcases (show y / 2147483648 = 0 ∨ y / 2147483648 = 1 by omega) with h2 | h2 <;> rw [h, h2] <;> rfl
theorem and_lt32 {x y : Nat} (hy : y < 4294967296) : (x &&& y) < 4294967296 := Nat.lt_of_le_of_lt Nat.and_le_right hy
theorem xor_lt32 {x y : Nat} (hx : x < 4294967296) (hy : y < 4294967296) : (x ^^^ y) < 4294967296 := Nat.xor_lt_two_pow (n := 32) hx hy
theorem or_lt32 {x y : Nat} (hx : x < 4294967296) (hy : y < 4294967296) : (x ||| y) < 4294967296 := Nat.or_lt_two_pow (n := 32) hx hy
theorem sub32 (x y b : Nat) (hx : x < 4294967296) (hy : y < 4294967296) (hb : b ≤ 1) :
    bits_Sub32.f (x : Int) (y : Int) (b : Int) = some ((((x + 8589934592 - y - b) % 4294967296 : Nat) : Int), ((if x < y + b then 1 else 0 : Nat) : Int)) := by
  have hd : ((((x : Int) - y) % 4294967296) - b) % 4294967296 = (((x + 8589934592 - y - b) % 4294967296 : Nat) : Int) := by omega
  unfold bits_Sub32.f
  rw [hd]
  have hD : (x + 8589934592 - y - b) % 4294967296 < 4294967296 := Nat.mod_lt _ (by decide)
  have hDv : (x + 8589934592 - y - b) % 4294967296 = if x < y + b then x + 4294967296 - y - b else x - y - b := by split <;> omega
  generalize (x + 8589934592 - y - b) % 4294967296 = D at *
  rw [show (4294967295 : Int) = ((4294967295 : Nat) : Int) from rfl, u32_xor_nat _ _ (by decide) hx, u32_xor_nat x y hx hy, u32_xor_nat _ _ (by decide) (xor_lt32 hx hy), u32_and_nat _ _ (xor_lt32 (by decide) hx) hy,
    u32_and_nat _ _ (xor_lt32 (by decide) (xor_lt32 hx hy)) hD, u32_or_nat _ _ (and_lt32 hy) (and_lt32 hD)]
  have hfin : ((((4294967295 ^^^ x) &&& y) ||| ((4294967295 ^^^ (x ^^^ y)) &&& D)) / 2147483648 : Nat) = if x < y + b then 1 else 0 := by
    rw [top_or _ _ (and_lt32 hy) (and_lt32 hD), top_and _ _ (xor_lt32 (by decide) hx) hy, top_and _ _ (xor_lt32 (by decide) (xor_lt32 hx hy)) hD, top_xor _ _ (by decide) hx, top_xor _ _ (by decide) (xor_lt32 hx hy), top_xor _ _ hx hy]
    have e0 : (4294967295 : Nat) / 2147483648 = 1 := rfl
    rw [e0]
    have bx := bit31 x hx
    have by' := bit31 y hy
    have bD := bit31 D hD
    rw [bx, by', bD, hDv]
    repeat' split
    all_goals first
      | omega
      | rfl
  congr 2
  rw [show (2147483648 : Int) = ((2147483648 : Nat) : Int) from rfl]
  exact_mod_cast hfin
theorem minus_l (l m : List Int) (hl : okL l) (hm : okL m) (hb : l.length ≤ 17592186044416) (hlt : vL m ≤ vL l) (d : Nat) : ∀ (k i c : Nat) (out : List Int), i + d = l.length → okL out → out.length = l.length → c ≤ 1 →
    vL (out.take i) + vL (m.take i) = vL (l.take i) + 4294967296 ^ i * c → (m.length ≤ l.length) → (∃ j, bigint_limbs_minus.l0 (k + j) m out (c : Int) l (l.length : Int) (i : Int) = some (toL (vL l - vL m))) := by
  induction d with
  | zero =>
    intro k i c out hi hok hlen hc hv hml
    have hi' : i = l.length := by omega
    subst hi'
    rw [List.take_of_length_le (by omega), List.take_of_length_le (by omega), List.take_of_length_le (by omega)] at hv
    have h1 := vL_lt hok
    rw [hlen] at h1
    have hc0 : c = 0 := by
      rcases (show c = 0 ∨ c = 1 by omega) with h | h
      · exact h
      · rw [h] at hv; omega
    rw [hc0] at hv
    obtain ⟨j, hj⟩ := trim_to (l := out) (by omega) hok
    have hj2 := at_rounds (bigint_limbs_trim.mono _) (Nat.le_add_left j k) hj
    refine ⟨j + 1, ?_⟩
    rw [← Nat.add_assoc]; simp only [bigint_limbs_minus.l0]
    rw [if_neg (by omega), hj2, show vL l - vL m = vL out by omega]; rfl
  | succ d ih =>
    intro k i c out hi hok hlen hc hv hml
    have hil : i < l.length := by omega
    obtain ⟨a, ha, hea⟩ := limb_nat hl i hil
    have hra : rd l (i : Int) = (a : Int) := by rw [rd_nat hil, hea]
    have ht := vL_take_succ l i hil
    rw [hea, Int.toNat_natCast] at ht
    have step : ∀ b : Nat, b < 4294967296 → vL (m.take (i + 1)) = vL (m.take i) + 4294967296 ^ i * b →
        vL ((out.set i (((a + 8589934592 - b - c) % 4294967296 : Nat) : Int)).take (i + 1)) + vL (m.take (i + 1)) = vL (l.take (i + 1)) + 4294967296 ^ (i + 1) * (if a < b + c then 1 else 0) := by
      intro b hb2 hmb
      rw [take_set_succ _ _ (by omega), vL_snoc, List.length_take, Nat.min_eq_left (by omega), Int.toNat_natCast, hmb, ht, Nat.pow_succ]
      have hD : (a + 8589934592 - b - c) % 4294967296 + b + c = a + 4294967296 * (if a < b + c then 1 else 0) := by split <;> omega
      generalize (a + 8589934592 - b - c) % 4294967296 = D at *
      generalize (if a < b + c then 1 else 0) = q at *
      have h2 := congrArg (4294967296 ^ i * ·) hD
      simp only [Nat.mul_add] at h2
      rw [← Nat.mul_assoc] at h2
      omega
    have hcar : ∀ b : Nat, ((if a < b + c then 1 else 0 : Nat)) ≤ 1 := fun b => by split <;> omega
    by_cases him : i < m.length
    · obtain ⟨b, hb2, heb⟩ := limb_nat hm i him
      have hrb : rd m (i : Int) = (b : Int) := by rw [rd_nat him, heb]
      have hts := vL_take_succ m i him
      rw [heb, Int.toNat_natCast] at hts
      obtain ⟨j, hj⟩ := ih k (i + 1) _ (out.set i (((a + 8589934592 - b - c) % 4294967296 : Nat) : Int)) (by omega) (okL_set hok _ _ (limbN _).1 (limbN _).2) (by rw [List.length_set]; exact hlen) (hcar b) (step b hb2 hts) hml
      refine ⟨j + 1, ?_⟩
      rw [← Nat.add_assoc]; simp only [bigint_limbs_minus.l0]
      rw [hra, hrb, sub32 a b c ha hb2 hc, succ64 i (by omega), if_pos (by omega), if_pos (by omega), if_pos (by omega), if_pos (by omega), Option.bind_some, if_pos (by omega), Int.toNat_natCast]
      exact hj
    · have hts : vL (m.take (i + 1)) = vL (m.take i) + 4294967296 ^ i * 0 := by rw [List.take_of_length_le (by omega), List.take_of_length_le (by omega)]; simp
      obtain ⟨j, hj⟩ := ih k (i + 1) _ (out.set i (((a + 8589934592 - 0 - c) % 4294967296 : Nat) : Int)) (by omega) (okL_set hok _ _ (limbN _).1 (limbN _).2) (by rw [List.length_set]; exact hlen) (hcar 0) (step 0 (by omega) hts) hml
      refine ⟨j + 1, ?_⟩
      rw [← Nat.add_assoc]; simp only [bigint_limbs_minus.l0]
      rw [hra, show (0 : Int) = ((0 : Nat) : Int) from rfl, sub32 a 0 c ha (by omega) hc, succ64 i (by omega), if_pos (by omega), if_pos (by omega), if_pos (by omega), if_neg (by omega), Option.bind_some, if_pos (by omega), Int.toNat_natCast]
      exact hj
theorem minus_to (a b : Nat) (h : b ≤ a) (hs : (toL a).length ≤ 17592186044416) : To (fun k => bigint_limbs_minus.f k (toL a) (toL b)) (toL (a - b)) := by
  have hml : (toL b).length ≤ (toL a).length := len_toL_le (Nat.lt_of_le_of_lt h (lt_of_len_toL (Nat.le_refl _)))
  obtain ⟨k, hk⟩ := minus_l (toL a) (toL b) (okL_toL a) (okL_toL b) hs (by rw [vL_toL, vL_toL]; exact h) (toL a).length 0 0 0 (List.replicate (toL a).length 0) (by omega) (okL_replicate _) (by simp) (by omega) (by simp [vL_nil]) hml
  refine ⟨0 + k, ?_⟩
  show bigint_limbs_minus.f _ _ _ = _
  unfold bigint_limbs_minus.f
  rw [vL_toL, vL_toL] at hk
  rw [if_pos (by omega), Int.toNat_natCast, if_pos (by omega)]
  exact hk

/-! ### times -/
theorem times_in (l m : List Int) (hm : okL m) (hb : l.length + m.length ≤ 17592186044416) (i a : Nat) (ha : a < 4294967296) (hi : i < l.length) (d : Nat) : ∀ (j c : Nat) (out : List Int) (V : Nat), j + d = m.length → okL out → out.length = l.length + m.length → c < 4294967296 →
    (∀ h : i + m.length < out.length, out[i + m.length] = 0) → vL out + 4294967296 ^ (i + j) * c = V + 4294967296 ^ i * (a * vL (m.take j)) →
    ∃ out', okL out' ∧ out'.length = l.length + m.length ∧ vL out' = V + 4294967296 ^ i * (a * vL m) ∧
      ∀ k, bigint_limbs_times.l1 (k + d + 1) m out (i : Int) (a : Int) (c : Int) l (l.length : Int) (i : Int) m (m.length : Int) (j : Int) = bigint_limbs_times.l0 k m out' l (l.length : Int) ((i + 1 : Nat) : Int) := by
  induction d with
  | zero =>
    intro j c out V hj hok hlen hc hz hv
    have hj' : j = m.length := by omega
    subst hj'
    have hlt : i + m.length < out.length := by omega
    have hv0 := vL_set out (i + m.length) hlt ((c : Int) % 4294967296)
    rw [hz hlt, modN, Nat.mod_eq_of_lt hc] at hv0
    have ec : wrap64 ((i : Int) + (m.length : Int)) = ((i + m.length : Nat) : Int) := (w64 (by omega) (by omega)).trans (by omega)
    refine ⟨out.set (i + m.length) (c : Int), okL_set hok _ _ (by omega) (by omega), by rw [List.length_set]; exact hlen, ?_, fun k => ?_⟩
    · rw [List.take_of_length_le (Nat.le_refl _)] at hv
      simp only [Int.toNat_natCast, Int.toNat_zero, Nat.mul_zero, Nat.add_zero] at hv0
      omega
    · rw [show k + 0 + 1 = k + 1 from rfl, bigint_limbs_times.l1]
      clear hv hv0
      rw [if_neg (by omega), ec, if_pos (by omega), if_pos (by omega), Int.toNat_natCast, modN, Nat.mod_eq_of_lt hc, succ64 i (by omega)]
  | succ d ih =>
    intro j c out V hj hok hlen hc hz hv0_
    have HV := Aside0.mk hv0_
    clear hv0_
    have hjm : j < m.length := by omega
    have hj64 : j ≤ 140737488355328 := by omega
    have hj1 : j + 1 + d = m.length := by omega
    obtain ⟨b, hb2, heb⟩ := limb_nat hm j hjm
    have hrb : rd m (j : Int) = (b : Int) := by rw [rd_nat hjm, heb]
    have HT := Aside0.mk (vL_take_succ m j hjm)
    rw [heb, Int.toNat_natCast] at HT
    have hij : i + j < out.length := by omega
    obtain ⟨o, ho, heo⟩ := limb_nat hok (i + j) hij
    have hro : rd out ((i + j : Nat) : Int) = (o : Int) := by rw [rd_nat hij, heo]
    have e1 : wrap64 ((i : Int) + (j : Int)) = ((i + j : Nat) : Int) := (w64 (by omega) (by omega)).trans (by omega)
    have hab : a * b ≤ 4294967295 * 4294967295 := Nat.mul_le_mul (by omega) (by omega)
    have hn : IntKind.u64.wrap ((c : Int) + IntKind.u64.wrap (IntKind.u64.wrap (IntKind.u64.wrap (a : Int) * IntKind.u64.wrap (b : Int)) + IntKind.u64.wrap (o : Int))) = ((c + (a * b + o) : Nat) : Int) := by
      rw [u64n (a := a) (by omega), u64n (a := b) (by omega), ← Int.natCast_mul, u64n (a := a * b) (by omega), add2 ho (by omega), ← Int.natCast_add, u64n (by omega)]
    have HS := Aside0.mk (vL_set out (i + j) hij (((c + (a * b + o)) % 4294967296 : Nat) : Int))
    rw [heo] at HS
    simp only [Int.toNat_natCast] at HS
    obtain ⟨out', h1, h2, h3, h4⟩ := ih (j + 1) ((c + (a * b + o)) / 4294967296) (out.set (i + j) (((c + (a * b + o)) % 4294967296 : Nat) : Int)) V hj1 (okL_set hok _ _ (limbN _).1 (limbN _).2) (by rw [List.length_set]; exact hlen) (by omega) (fun h => by
      rw [List.getElem_set_ne (by omega)]
      exact hz (by rw [List.length_set] at h; exact h)) (by
      have hv := HV.out
      have hts := HT.out
      have hv0 := HS.out
      rw [hts, show i + (j + 1) = (i + j) + 1 from rfl, Nat.pow_succ]
      have e2 : 4294967296 ^ (i + j) * ((c + (a * b + o)) % 4294967296) + 4294967296 ^ (i + j) * 4294967296 * ((c + (a * b + o)) / 4294967296) = 4294967296 ^ (i + j) * (c + (a * b + o)) := by
        rw [Nat.mul_assoc, ← Nat.mul_add, Nat.mod_add_div]
      have e3 : 4294967296 ^ i * (a * (vL (m.take j) + 4294967296 ^ j * b)) = 4294967296 ^ i * (a * vL (m.take j)) + 4294967296 ^ (i + j) * (a * b) := by
        rw [Nat.pow_add]; grind
      rw [e3]
      simp only [Nat.mul_add] at e2
      omega)
    refine ⟨out', h1, h2, h3, fun k => ?_⟩
    clear h3
    have := h4 k
    rw [show k + (d + 1) + 1 = (k + d + 1) + 1 by omega]
    rw [bigint_limbs_times.l1]
    rw [if_pos (by omega), if_pos (by omega), if_pos (by omega), e1, if_pos (Int.natCast_nonneg _), if_pos (Int.ofNat_lt.2 hij), hrb, hro, hn, modN, divN, succ64 j hj64, Int.toNat_natCast]
    exact this
theorem times_l (l m : List Int) (hl : okL l) (hm : okL m) (hb : l.length + m.length ≤ 17592186044416) (d : Nat) : ∀ (i : Nat) (out : List Int), i + d = l.length → okL out → out.length = l.length + m.length →
    vL out = vL (l.take i) * vL m → ∃ k, bigint_limbs_times.l0 k m out l (l.length : Int) (i : Int) = some (toL (vL l * vL m)) := by
  induction d with
  | zero =>
    intro i out hi hok hlen hv
    obtain ⟨j, hj⟩ := trim_to (l := out) (by omega) hok
    have hj' : bigint_limbs_trim.f j out = some (toL (vL out)) := hj
    refine ⟨j + 1, ?_⟩
    rw [bigint_limbs_times.l0]
    rw [if_neg (by omega), hj', hv, List.take_of_length_le (by omega)]; rfl
  | succ d ih =>
    intro i out hi hok hlen hv
    have hil : i < l.length := by omega
    obtain ⟨a, ha, hea⟩ := limb_nat hl i hil
    have hra : rd l (i : Int) = (a : Int) := by rw [rd_nat hil, hea]
    have ht := vL_take_succ l i hil
    rw [hea, Int.toNat_natCast] at ht
    have hlt1 := vL_lt (okL_take hl i)
    rw [List.length_take, Nat.min_eq_left (by omega)] at hlt1
    have hlt2 := vL_lt hm
    have hz : ∀ h : i + m.length < out.length, out[i + m.length] = 0 := by
      intro h
      obtain ⟨o, ho, heo⟩ := limb_nat hok (i + m.length) h
      have h1 := limb_le hok (i + m.length) h
      have h2 : vL (l.take i) * vL m < 4294967296 ^ i * 4294967296 ^ m.length := Nat.mul_lt_mul'' hlt1 hlt2
      rw [heo, Int.toNat_natCast] at h1
      rw [← Nat.pow_add, ← hv] at h2
      have h3 : o = 0 := by
        rcases Nat.eq_zero_or_pos o with h0 | h0
        · exact h0
        · have := Nat.le_mul_of_pos_right (4294967296 ^ (i + m.length)) h0
          omega
      rw [heo, h3]; rfl
    obtain ⟨out', h1, h2, h3, h4⟩ := times_in l m hm hb i a ha hil m.length 0 0 out (vL out) (by omega) hok hlen (by omega) hz (by simp [vL_nil])
    obtain ⟨k, hk⟩ := ih (i + 1) out' (by omega) h1 h2 (by rw [h3, hv, ht]; grind)
    refine ⟨k + m.length + 1 + 1, ?_⟩
    have := h4 k
    rw [bigint_limbs_times.l0]
    rw [if_pos (by omega), if_pos (by omega), if_pos (by omega), hra]
    rw [show ((0 : Nat) : Int) = 0 from rfl] at this
    rw [this]
    exact hk
theorem times_to {l m : List Int} (hl : okL l) (hm : okL m) (hb : l.length + m.length ≤ 17592186044416) : To (fun k => bigint_limbs_times.f k l m) (toL (vL l * vL m)) := by
  obtain ⟨k, hk⟩ := times_l l m hl hm hb l.length 0 (List.replicate (l.length + m.length) 0) (by omega) (okL_replicate _) (by simp) (by rw [vL_replicate]; simp [vL_nil])
  refine ⟨k, ?_⟩
  show bigint_limbs_times.f _ _ _ = _
  unfold bigint_limbs_times.f
  rw [show wrap64 ((l.length : Int) + (m.length : Int)) = ((l.length + m.length : Nat) : Int) from (w64 (by omega) (by omega)).trans (by omega), if_pos (by omega), Int.toNat_natCast, if_pos (by omega)]
  exact hk
end Go.Proofs.Ytkmblomkocfldaa.F

/- The plain laws of the printed functions Len32, LeadingZeros32, size, shift, unshift, Div32, short, Add32. -/
set_option linter.unusedVariables false
namespace Go.Proofs.Ytkmblomkocfldaa.F
open Go.RowKit Go.Proofs.Ytkmblomkocfldaa.Sp Go.Proofs.YtkmblomkocfldaaW.PrintWords Go.Proofs.YtkmblomkocfldaaW.PrintMore

/-! ### the length in bits -/
/-- r is the length of n in bits. -/
def IsLen (n r : Nat) : Prop := n < 2 ^ r ∧ (0 < r → 2 ^ (r - 1) ≤ n)
theorem IsLen.uniq {n r s : Nat} (h : IsLen n r) (k : IsLen n s) : r = s := by
  rcases Nat.lt_trichotomy r s with h1 | h1 | h1
  · have := k.2 (by omega)
    have h2 : 2 ^ r ≤ 2 ^ (s - 1) := Nat.pow_le_pow_right (by decide) (by omega)
    have := h.1
    omega
  · exact h1
  · have := h.2 (by omega)
    have h2 : 2 ^ s ≤ 2 ^ (r - 1) := Nat.pow_le_pow_right (by decide) (by omega)
    have := k.1
    omega
def blen (n : Nat) : Nat := if n = 0 then 0 else n.log2 + 1
theorem blen_is (n : Nat) : IsLen n (blen n) := by
  unfold blen
  split
  · rename_i h; subst h; exact ⟨by decide, fun h => absurd h (by decide)⟩
  · rename_i h
    exact ⟨Nat.lt_log2_self, fun _ => Nat.log2_self_le h⟩
theorem isLen_shift {x q r : Nat} (c : Nat) (hq : q = x / 2 ^ c) (hpos : 0 < q) (h : IsLen q r) : IsLen x (c + r) := by
  subst hq
  obtain ⟨h1, h2⟩ := h
  have hr : 0 < r := by
    rcases Nat.eq_zero_or_pos r with h0 | h0
    · rw [h0, Nat.pow_zero] at h1; omega
    · exact h0
  have h3 := h2 hr
  have hp : 0 < 2 ^ c := Nat.two_pow_pos c
  refine ⟨?_, fun _ => ?_⟩
  · rw [Nat.pow_add, Nat.mul_comm]; exact (Nat.div_lt_iff_lt_mul hp).1 h1
  · rw [show c + r - 1 = c + (r - 1) by omega, Nat.pow_add, Nat.mul_comm]; exact (Nat.le_div_iff_mul_le hp).1 h3
set_option maxRecDepth 100000 in
theorem len_tab : ∀ i : Fin 256, ∃ r : Fin 9, bt (⟨#[0, 1, 2, 2, 3, 3, 3, 3, 4, 4, 4, 4, 4, 4, 4, 4, 5, 5, 5, 5, 5, 5, 5, 5, 5, 5, 5, 5, 5, 5, 5, 5, 6, 6, 6, 6, 6, 6, 6, 6, 6, 6, 6, 6, 6, 6, 6, 6, 6, 6, 6, 6, 6, 6, 6, 6, 6, 6, 6, 6, 6, 6, 6, 6, 7, 7, 7, 7, 7, 7, 7, 7, 7, 7, 7, 7, 7, 7, 7, 7, 7, 7, 7, 7, 7, 7, 7, 7, 7, 7, 7, 7, 7, 7, 7, 7, 7, 7, 7, 7, 7, 7, 7, 7, 7, 7, 7, 7, 7, 7, 7, 7, 7, 7, 7, 7, 7, 7, 7, 7, 7, 7, 7, 7, 7, 7, 7, 7, 8, 8, 8, 8, 8, 8, 8, 8, 8, 8, 8, 8, 8, 8, 8, 8, 8, 8, 8, 8, 8, 8, 8, 8, 8, 8, 8, 8, 8, 8, 8, 8, 8, 8, 8, 8, 8, 8, 8, 8, 8, 8, 8, 8, 8, 8, 8, 8, 8, 8, 8, 8, 8, 8, 8, 8, 8, 8, 8, 8, 8, 8, 8, 8, 8, 8, 8, 8, 8, 8, 8, 8, 8, 8, 8, 8, 8, 8, 8, 8, 8, 8, 8, 8, 8, 8, 8, 8, 8, 8, 8, 8, 8, 8, 8, 8, 8, 8, 8, 8, 8, 8, 8, 8, 8, 8, 8, 8, 8, 8, 8, 8, 8, 8, 8, 8, 8, 8, 8, 8, 8, 8, 8, 8, 8, 8, 8, 8]⟩ : ByteArray) ((i : Nat) : Int) = ((r : Nat) : Int) ∧ (i : Nat) < 2 ^ (r : Nat) ∧ (0 < (r : Nat) → 2 ^ ((r : Nat) - 1) ≤ (i : Nat)) := by decide +kernel
theorem len_at (x : Int) (h0 : 0 ≤ x) (h1 : x < 256) : ∃ r : Nat, r ≤ 8 ∧ bt (⟨#[0, 1, 2, 2, 3, 3, 3, 3, 4, 4, 4, 4, 4, 4, 4, 4, 5, 5, 5, 5, 5, 5, 5, 5, 5, 5, 5, 5, 5, 5, 5, 5, 6, 6, 6, 6, 6, 6, 6, 6, 6, 6, 6, 6, 6, 6, 6, 6, 6, 6, 6, 6, 6, 6, 6, 6, 6, 6, 6, 6, 6, 6, 6, 6, 7, 7, 7, 7, 7, 7, 7, 7, 7, 7, 7, 7, 7, 7, 7, 7, 7, 7, 7, 7, 7, 7, 7, 7, 7, 7, 7, 7, 7, 7, 7, 7, 7, 7, 7, 7, 7, 7, 7, 7, 7, 7, 7, 7, 7, 7, 7, 7, 7, 7, 7, 7, 7, 7, 7, 7, 7, 7, 7, 7, 7, 7, 7, 7, 8, 8, 8, 8, 8, 8, 8, 8, 8, 8, 8, 8, 8, 8, 8, 8, 8, 8, 8, 8, 8, 8, 8, 8, 8, 8, 8, 8, 8, 8, 8, 8, 8, 8, 8, 8, 8, 8, 8, 8, 8, 8, 8, 8, 8, 8, 8, 8, 8, 8, 8, 8, 8, 8, 8, 8, 8, 8, 8, 8, 8, 8, 8, 8, 8, 8, 8, 8, 8, 8, 8, 8, 8, 8, 8, 8, 8, 8, 8, 8, 8, 8, 8, 8, 8, 8, 8, 8, 8, 8, 8, 8, 8, 8, 8, 8, 8, 8, 8, 8, 8, 8, 8, 8, 8, 8, 8, 8, 8, 8, 8, 8, 8, 8, 8, 8, 8, 8, 8, 8, 8, 8, 8, 8, 8, 8, 8, 8]⟩ : ByteArray) x = (r : Int) ∧ IsLen x.toNat r := by
  obtain ⟨i, rfl⟩ := Int.eq_ofNat_of_zero_le h0
  obtain ⟨r, h2, h3, h4⟩ := len_tab ⟨i, by omega⟩
  exact ⟨r, by omega, h2, by simpa using h3, by simpa using h4⟩
set_option maxRecDepth 100000 in
theorem len32_to (n : Nat) (h : n < 4294967296) : bits_Len32.f (n : Int) = some ((blen n : Nat) : Int) := by
  have key : ∀ (r c : Nat), c + r ≤ 100 → IsLen n (c + r) → (((c + r : Nat) : Int)) = ((blen n : Nat) : Int) := fun r c _ hl => by rw [hl.uniq (blen_is n)]
  unfold bits_Len32.f
  by_cases h1 : (n : Int) ≥ 65536
  · rw [if_pos h1]
    by_cases h2 : (n : Int) / 65536 ≥ 256
    · rw [if_pos h2, if_pos (by omega), if_pos (by omega)]
      obtain ⟨r, hr, e, hl⟩ := len_at ((n : Int) / 65536 / 256 % 256) (by omega) (by omega)
      rw [e]
      have hx : ((n : Int) / 65536 / 256 % 256).toNat = n / 2 ^ 24 := by omega
      rw [hx] at hl
      have := key r 24 (by omega) (isLen_shift 24 rfl (by omega) hl)
      rw [← this]
      refine congrArg some ?_
      unfold wrap64
      omega
    · rw [if_neg h2, if_pos (by omega), if_pos (by omega)]
      obtain ⟨r, hr, e, hl⟩ := len_at ((n : Int) / 65536 % 256) (by omega) (by omega)
      rw [e]
      have hx : ((n : Int) / 65536 % 256).toNat = n / 2 ^ 16 := by omega
      rw [hx] at hl
      have := key r 16 (by omega) (isLen_shift 16 rfl (by omega) hl)
      rw [← this]
      refine congrArg some ?_
      unfold wrap64
      omega
  · rw [if_neg h1]
    by_cases h2 : (n : Int) ≥ 256
    · rw [if_pos h2, if_pos (by omega), if_pos (by omega)]
      obtain ⟨r, hr, e, hl⟩ := len_at ((n : Int) / 256 % 256) (by omega) (by omega)
      rw [e]
      have hx : ((n : Int) / 256 % 256).toNat = n / 2 ^ 8 := by omega
      rw [hx] at hl
      have := key r 8 (by omega) (isLen_shift 8 rfl (by omega) hl)
      rw [← this]
      refine congrArg some ?_
      unfold wrap64
      omega
    · rw [if_neg h2, if_pos (by omega), if_pos (by omega)]
      obtain ⟨r, hr, e, hl⟩ := len_at ((n : Int) % 256) (by omega) (by omega)
      rw [e]
      have hx : ((n : Int) % 256).toNat = n := by omega
      rw [hx] at hl
      have := key r 0 (by omega) (by rw [Nat.zero_add]; exact hl)
      rw [← this]
      refine congrArg some ?_
      unfold wrap64
      omega
theorem blen_le {n m : Nat} (h : n < 2 ^ m) : blen n ≤ m := by
  rcases Nat.lt_or_ge m (blen n) with h1 | h1
  · have h2 := (blen_is n).2 (by omega)
    have h3 : 2 ^ m ≤ 2 ^ (blen n - 1) := Nat.pow_le_pow_right (by decide) (by omega)
    omega
  · exact h1
theorem leading_to (n : Nat) (h : n < 4294967296) : bits_LeadingZeros32.f (n : Int) = some ((32 - blen n : Nat) : Int) := by
  have := blen_le (n := n) (m := 32) h
  unfold bits_LeadingZeros32.f
  rw [len32_to n h, Option.bind_some]
  refine congrArg some ?_
  unfold wrap64
  omega
theorem blen_cat {a q c : Nat} (hq : 0 < q) (ha : a < 4294967296 ^ c) : blen (a + 4294967296 ^ c * q) = 32 * c + blen q := by
  have e : (4294967296 : Nat) ^ c = 2 ^ (32 * c) := by rw [Nat.pow_mul]
  rw [e] at ha ⊢
  have hp := Nat.two_pow_pos (32 * c)
  have hd : q = (a + 2 ^ (32 * c) * q) / 2 ^ (32 * c) := by rw [Nat.add_mul_div_left _ _ hp, Nat.div_eq_of_lt ha, Nat.zero_add]
  exact ((blen_is _).uniq (isLen_shift (32 * c) hd hq (blen_is q)))
theorem size_to (n : Nat) (h : (toL n).length ≤ 17592186044416) : bigint_limbs_size.f (toL n) = some ((blen n : Nat) : Int) := by
  unfold bigint_limbs_size.f
  by_cases h0 : n = 0
  · subst h0; rw [toL_zero]; rfl
  have hne : toL n ≠ [] := fun e => h0 ((toL_nil_iff n).1 e)
  have hpos : 0 < (toL n).length := List.length_pos_iff.2 hne
  have hlt : (toL n).length - 1 < (toL n).length := by omega
  have e1 : wrap64 (((toL n).length : Int) - 1) = (((toL n).length - 1 : Nat) : Int) := (w64 (by omega) (by omega)).trans (by omega)
  obtain ⟨a, ha, hea⟩ := limb_nat (okL_toL n) _ hlt
  have hr : rd (toL n) (((toL n).length - 1 : Nat) : Int) = (a : Int) := by rw [rd_nat hlt, hea]
  have ht : (toL n).getLast hne = (a : Int) := by rw [List.getLast_eq_getElem, hea]
  have ha0 : 0 < a := by
    have := trim_toL n hne
    rw [ht] at this
    omega
  rw [if_neg (by omega), e1, if_pos (by omega), if_pos (by omega), hr, len32_to a ha, Option.bind_some]
  have hv := vL_take_add (toL n) ((toL n).length - 1) (by omega)
  have hdr : (toL n).drop ((toL n).length - 1) = [(a : Int)] := by
    rw [List.drop_eq_getElem_cons hlt, hea, List.drop_of_length_le (by omega)]
  have hlow := vL_lt (okL_take (okL_toL n) ((toL n).length - 1))
  rw [List.length_take, Nat.min_eq_left (by omega)] at hlow
  rw [hdr, vL_cons, vL_nil, vL_toL, Nat.mul_zero, Nat.add_zero, Int.toNat_natCast] at hv
  have hb := blen_cat ha0 hlow
  rw [← hv] at hb
  have hb2 := blen_le (n := a) (m := 32) ha
  rw [hb]
  refine congrArg some ?_
  clear hv hdr hlow hb ht hea
  generalize blen a = x at *
  generalize (toL n).length - 1 = y at *
  unfold wrap64
  omega

/-! ### shift -/
theorem shl64 (a n : Nat) (ha : a < 4294967296) (hn : n < 32) : shl .u64 (IntKind.u64.wrap (a : Int)) (n : Int) = ((a * 2 ^ n : Nat) : Int) ∧ a * 2 ^ n < 4294967296 * 2 ^ n := by
  have h2 : 2 ^ n ≤ 2 ^ 31 := Nat.pow_le_pow_right (by decide) (by omega)
  have hlt : a * 2 ^ n < 4294967296 * 2 ^ n := Nat.mul_lt_mul_of_pos_right ha (Nat.two_pow_pos n)
  have h64 : a * 2 ^ n < 18446744073709551616 := by
    have : (2 : Nat) ^ 31 = 2147483648 := rfl
    omega
  refine ⟨?_, hlt⟩
  unfold shl
  rw [u64n (by omega), Int.toNat_natCast]
  have h1 : min n IntKind.u64.bits = n := Nat.min_eq_left (by simp [IntKind.bits]; omega)
  rw [h1, show ((2 : Int) ^ n) = ((2 ^ n : Nat) : Int) by norm_cast, ← Int.natCast_mul]
  exact u64n h64
theorem shift_or (c a n : Nat) (hc : c < 2 ^ n) (hn : n < 32) : Go.bits .or .u32 (c : Int) (((a * 2 ^ n % 4294967296 : Nat)) : Int) = ((c + a * 2 ^ n % 4294967296 : Nat) : Int) ∧ c + a * 2 ^ n % 4294967296 < 4294967296 := by
  have e : (4294967296 : Nat) = 2 ^ (32 - n) * 2 ^ n := by rw [← Nat.pow_add, show 32 - n + n = 32 by omega]
  have hm : a * 2 ^ n % 4294967296 = a % 2 ^ (32 - n) * 2 ^ n := by
    have e' := Nat.mul_mod_mul_right (2 ^ n) a (2 ^ (32 - n))
    rw [← e] at e'
    exact e'
  have hlt : a * 2 ^ n % 4294967296 < 4294967296 := Nat.mod_lt _ (by decide)
  have h2 : a % 2 ^ (32 - n) + 1 ≤ 2 ^ (32 - n) := Nat.mod_lt _ (Nat.two_pow_pos _)
  have h3 : (a % 2 ^ (32 - n) + 1) * 2 ^ n ≤ 2 ^ (32 - n) * 2 ^ n := Nat.mul_le_mul_right _ h2
  rw [← e, Nat.add_mul, Nat.one_mul, ← hm] at h3
  have hc32 : c < 4294967296 := by omega
  refine ⟨?_, by omega⟩
  rw [u32_or_nat _ _ hc32 hlt, Nat.or_comm, nat_join n _ _ (by rw [hm]; exact Nat.mul_mod_left _ _) hc, Nat.add_comm]
theorem shift_l (l : List Int) (n : Nat) (hl : okL l) (hb : l.length ≤ 17592186044416) (hn : n < 32) (d : Nat) : ∀ (i c : Nat) (out : List Int), i + d = l.length → okL out → out.length = l.length + 1 → (∃ h : i < out.length, out[i] = (c : Int)) → c < 2 ^ n →
    vL (out.take i) + 4294967296 ^ i * c = 2 ^ n * vL (l.take i) → ∃ out', okL out' ∧ out'.length = l.length + 1 ∧ vL out' = 2 ^ n * vL l ∧ bigint_limbs_shift.l0 (d + 1) (n : Int) out l (l.length : Int) (i : Int) = some out' := by
  induction d with
  | zero =>
    intro i c out hi hok hlen hcc hc hv
    obtain ⟨hio, hcc⟩ := hcc
    refine ⟨out, hok, hlen, ?_, ?_⟩
    · have h1 := vL_take_succ out i hio
      rw [List.take_of_length_le (by omega), hcc, Int.toNat_natCast, hv, List.take_of_length_le (by omega)] at h1
      exact h1
    · rw [bigint_limbs_shift.l0]; rw [if_neg (by omega)]
  | succ d ih =>
    intro i c out hi hok hlen hcc hc hv
    obtain ⟨hio, hcc⟩ := hcc
    have HV := Aside0.mk hv
    clear hv
    have hil : i < l.length := by omega
    have hi64 : i ≤ 140737488355328 := by omega
    have hi1 : i + 1 < out.length := by omega
    have hi2 : i + 1 + d = l.length := by omega
    obtain ⟨a, ha, hea⟩ := limb_nat hl i hil
    have hra : rd l (i : Int) = (a : Int) := by rw [rd_nat hil, hea]
    have hro : rd out (i : Int) = (c : Int) := by rw [rd_nat hio, hcc]
    have HT := Aside0.mk (vL_take_succ l i hil)
    rw [hea, Int.toNat_natCast] at HT
    obtain ⟨hsh, hsl⟩ := shl64 a n ha hn
    obtain ⟨hor, hol⟩ := shift_or c a n hc hn
    have hdiv : a * 2 ^ n / 4294967296 < 2 ^ n := by
      rw [Nat.div_lt_iff_lt_mul (by decide), Nat.mul_comm (2 ^ n)]; exact hsl
    have h2n : (2 : Nat) ^ n ≤ 2 ^ 31 := Nat.pow_le_pow_right (by decide) (by omega)
    have h31 : (2 : Nat) ^ 31 = 2147483648 := rfl
    have hdd : ((a * 2 ^ n / 4294967296 : Nat) : Int) % 4294967296 = ((a * 2 ^ n / 4294967296 : Nat) : Int) := by
      generalize a * 2 ^ n / 4294967296 = z at *
      omega
    obtain ⟨out', h1, h2, h3, h4⟩ := ih (i + 1) (a * 2 ^ n / 4294967296) ((out.set i ((c + a * 2 ^ n % 4294967296 : Nat) : Int)).set (i + 1) ((a * 2 ^ n / 4294967296 : Nat) : Int)) hi2
      (okL_set (okL_set hok _ _ (Int.natCast_nonneg _) (Int.ofNat_lt.2 hol)) _ _ (Int.natCast_nonneg _) (by generalize a * 2 ^ n / 4294967296 = z at *; omega)) (by simp [hlen]) ⟨by rw [List.length_set, List.length_set]; exact hi1, List.getElem_set_self _⟩ hdiv (by
      rw [List.take_set_of_le (Nat.le_refl _), take_set_succ _ _ hio, vL_snoc, List.length_take, Nat.min_eq_left (by omega), HT.out, Int.toNat_natCast, Nat.pow_succ]
      have hv := HV.out
      have e2 : 4294967296 ^ i * (a * 2 ^ n % 4294967296) + 4294967296 ^ i * 4294967296 * (a * 2 ^ n / 4294967296) = 4294967296 ^ i * (a * 2 ^ n) := by
        rw [Nat.mul_assoc, ← Nat.mul_add, Nat.mod_add_div]
      rw [Nat.mul_add, ← Nat.add_assoc, hv, Nat.add_assoc, e2]
      grind)
    refine ⟨out', h1, h2, h3, ?_⟩
    clear h3
    rw [show d + 1 + 1 = (d + 1) + 1 from rfl, bigint_limbs_shift.l0]
    rw [if_pos (by omega), if_pos (by omega), if_pos (by omega), if_pos (by omega), if_pos (by omega), succ64 i hi64, if_pos (by omega), if_pos (by omega), hra, hro, hsh, modN, hor, divN, hdd, Int.toNat_natCast, Int.toNat_natCast]
    exact h4
theorem shift_to {l : List Int} (hl : okL l) (hb : l.length ≤ 17592186044416) (n : Nat) (hn : n < 32) : ∃ out, okL out ∧ out.length = l.length + 1 ∧ vL out = 2 ^ n * vL l ∧ To (fun k => bigint_limbs_shift.f k l (n : Int)) out := by
  obtain ⟨out, h1, h2, h3, h4⟩ := shift_l l n hl hb hn l.length 0 0 (List.replicate (l.length + 1) 0) (by omega) (okL_replicate _) (by simp) ⟨by simp, by simp⟩ (Nat.two_pow_pos n) (by simp [vL_nil])
  refine ⟨out, h1, h2, h3, l.length + 1, ?_⟩
  show bigint_limbs_shift.f _ _ _ = _
  unfold bigint_limbs_shift.f
  rw [succ64 l.length (by omega), if_pos (by omega), Int.toNat_natCast, if_pos (by omega)]
  exact h4

/-! ### unshift -/
theorem digit_of (V i n : Nat) (x y Z : Nat) (h : V / 4294967296 ^ i = x + 4294967296 * (y + 4294967296 * Z)) (hn : n ≤ 32) : (V / 2 ^ n / 4294967296 ^ i) % 4294967296 = ((x + y * 4294967296) / 2 ^ n) % 4294967296 := by
  rw [Nat.div_div_eq_div_mul, Nat.mul_comm, ← Nat.div_div_eq_div_mul, h]
  have e : (4294967296 : Nat) = 2 ^ n * 2 ^ (32 - n) := by rw [← Nat.pow_add, show n + (32 - n) = 32 by omega]
  have e2 : x + 4294967296 * (y + 4294967296 * Z) = (x + y * 4294967296) + 2 ^ n * (2 ^ (32 - n) * 4294967296 * Z) := by
    have : 4294967296 * (4294967296 * Z) = 2 ^ n * (2 ^ (32 - n) * 4294967296 * Z) := by
      rw [← Nat.mul_assoc (2 ^ n), ← Nat.mul_assoc (2 ^ n), ← e, Nat.mul_assoc]
    rw [Nat.mul_add, this]; omega
  rw [e2, Nat.add_mul_div_left _ _ (Nat.two_pow_pos n), show 2 ^ (32 - n) * 4294967296 * Z = 4294967296 * (2 ^ (32 - n) * Z) by grind, Nat.add_mul_mod_self_left]
theorem div_pow_take {l : List Int} (hl : okL l) (i : Nat) (hi : i ≤ l.length) : vL l / 4294967296 ^ i = vL (l.drop i) := by
  have h := vL_take_add l i hi
  have h2 := vL_lt (okL_take hl i)
  rw [List.length_take, Nat.min_eq_left hi] at h2
  rw [h, Nat.add_mul_div_left _ _ (Nat.pow_pos (by decide)), Nat.div_eq_of_lt h2, Nat.zero_add]
theorem mod_pow_succ (W i : Nat) : W % 4294967296 ^ (i + 1) = W % 4294967296 ^ i + 4294967296 ^ i * ((W / 4294967296 ^ i) % 4294967296) := by
  rw [Nat.pow_succ, Nat.mod_mul]
theorem unshift_l (l : List Int) (n : Nat) (hl : okL l) (hb : l.length ≤ 17592186044416) (hn : n ≤ 32) (d : Nat) : ∀ (k i : Nat) (out : List Int), i + d = l.length → okL out → out.length = l.length →
    vL (out.take i) = vL l / 2 ^ n % 4294967296 ^ i → ∃ j, bigint_limbs_unshift.l0 (k + j) l (n : Int) out (l.length : Int) (i : Int) = some (toL (vL l / 2 ^ n)) := by
  induction d with
  | zero =>
    intro k i out hi hok hlen hv
    obtain ⟨j, hj⟩ := trim_to (l := out) (by omega) hok
    have hj2 := at_rounds (bigint_limbs_trim.mono _) (Nat.le_add_left j k) hj
    refine ⟨j + 1, ?_⟩
    rw [← Nat.add_assoc, bigint_limbs_unshift.l0]
    rw [if_neg (by omega), hj2, Option.bind_some]
    rw [List.take_of_length_le (by omega), Nat.mod_eq_of_lt] at hv
    · rw [hv]
    · refine Nat.lt_of_le_of_lt (Nat.div_le_self _ _) ?_
      have := vL_lt hl
      rwa [show i = l.length by omega]
  | succ d ih =>
    intro k i out hi hok hlen hv
    have HV := Aside0.mk hv
    clear hv
    have hil : i < l.length := by omega
    have hi64 : i ≤ 140737488355328 := by omega
    have hi2 : i + 1 + d = l.length := by omega
    have hio : i < out.length := by omega
    obtain ⟨a, ha, hea⟩ := limb_nat hl i hil
    have hra : rd l (i : Int) = (a : Int) := by rw [rd_nat hil, hea]
    have hd1 : l.drop i = (a : Int) :: l.drop (i + 1) := by rw [List.drop_eq_getElem_cons hil, hea]
    have step : ∀ y Z : Nat, y < 4294967296 → vL (l.drop (i + 1)) = y + 4294967296 * Z → ∀ j, bigint_limbs_unshift.l0 (k + j) l (n : Int) (out.set i (((a + y * 4294967296) / 2 ^ n % 4294967296 : Nat) : Int)) (l.length : Int) ((i + 1 : Nat) : Int) = bigint_limbs_unshift.l0 (k + j) l (n : Int) (out.set i (((a + y * 4294967296) / 2 ^ n % 4294967296 : Nat) : Int)) (l.length : Int) ((i + 1 : Nat) : Int) ∧
        vL ((out.set i (((a + y * 4294967296) / 2 ^ n % 4294967296 : Nat) : Int)).take (i + 1)) = vL l / 2 ^ n % 4294967296 ^ (i + 1) := by
      intro y Z hy hyZ j
      refine ⟨rfl, ?_⟩
      rw [take_set_succ _ _ hio, vL_snoc, List.length_take, Nat.min_eq_left (by omega), Int.toNat_natCast, HV.out, mod_pow_succ]
      rw [digit_of (vL l) i n a y Z (by rw [div_pow_take hl i (by omega), hd1, vL_cons, hyZ, Int.toNat_natCast]) hn]
    have shr_ : ∀ z : Nat, z < 18446744073709551616 → shr .u64 (z : Int) (n : Int) % 4294967296 = ((z / 2 ^ n % 4294967296 : Nat) : Int) := by
      intro z hz
      unfold shr
      rw [Int.toNat_natCast, show min n IntKind.u64.bits = n from Nat.min_eq_left (by simp [IntKind.bits]; omega), show ((2 : Int) ^ n) = ((2 ^ n : Nat) : Int) by norm_cast]
      rfl
    by_cases hl2 : i + 1 < l.length
    · obtain ⟨y, hy, hey⟩ := limb_nat hl (i + 1) hl2
      have hry : rd l ((i + 1 : Nat) : Int) = (y : Int) := by rw [rd_nat hl2, hey]
      have hd2 : vL (l.drop (i + 1)) = y + 4294967296 * vL (l.drop (i + 2)) := by rw [List.drop_eq_getElem_cons hl2, hey, vL_cons, Int.toNat_natCast]
      obtain ⟨j, hj⟩ := ih k (i + 1) _ hi2 (okL_set hok i _ (limbN ((a + y * 4294967296) / 2 ^ n)).1 (limbN _).2) (by rw [List.length_set]; exact hlen) (step y _ hy hd2 0).2
      refine ⟨j + 1, ?_⟩
      have hor : Go.bits .or .u64 (IntKind.u64.wrap (a : Int)) (IntKind.u64.wrap (IntKind.u64.wrap (y : Int) * 4294967296)) = ((a + y * 4294967296 : Nat) : Int) := by
        rw [u64n (a := a) (by omega), u64n (a := y) (by omega), show (y : Int) * 4294967296 = ((y * 4294967296 : Nat) : Int) from rfl, u64n (by omega), u64_or_nat _ _ (by omega) (by omega), Nat.or_comm, nat_join 32 _ _ (by omega) (by omega), Nat.add_comm]
      rw [← Nat.add_assoc, bigint_limbs_unshift.l0]
      rw [if_pos (by omega), if_pos (by omega), if_pos (by omega), succ64 i hi64, if_pos (by omega), if_pos (by omega), if_pos (by omega), if_pos (by omega), hra, hry, hor, shr_ _ (by omega), Int.toNat_natCast]
      exact hj
    · have hd2 : vL (l.drop (i + 1)) = 0 + 4294967296 * 0 := by rw [List.drop_of_length_le (by omega)]; rfl
      obtain ⟨j, hj⟩ := ih k (i + 1) _ hi2 (okL_set hok i _ (limbN ((a + 0 * 4294967296) / 2 ^ n)).1 (limbN _).2) (by rw [List.length_set]; exact hlen) (step 0 _ (by omega) hd2 0).2
      refine ⟨j + 1, ?_⟩
      rw [← Nat.add_assoc, bigint_limbs_unshift.l0]
      rw [if_pos (by omega), if_pos (by omega), if_pos (by omega), succ64 i hi64, if_neg (by omega), if_pos (by omega), if_pos (by omega), hra, u64n (a := a) (by omega), shr_ _ (by omega), Int.toNat_natCast]
      rw [Nat.zero_mul, Nat.add_zero] at hj
      exact hj
theorem unshift_to {l : List Int} (hl : okL l) (hb : l.length ≤ 17592186044416) (n : Nat) (hn : n ≤ 32) : To (fun k => bigint_limbs_unshift.f k l (n : Int)) (toL (vL l / 2 ^ n)) := by
  obtain ⟨k, hk⟩ := unshift_l l n hl hb hn l.length 0 0 (List.replicate l.length 0) (by omega) (okL_replicate _) (by simp) (by rw [List.take_zero, vL_nil, Nat.pow_zero, Nat.mod_one])
  refine ⟨0 + k, ?_⟩
  show bigint_limbs_unshift.f _ _ _ = _
  unfold bigint_limbs_unshift.f
  rw [if_pos (by omega), Int.toNat_natCast, if_pos (by omega)]
  exact hk

/-! ### short -/
theorem div32 (h l y : Nat) (hy : y < 4294967296) (hl : l < 4294967296) (hh : h < y) : bits_Div32.f (h : Int) (l : Int) (y : Int) = some ((((h * 4294967296 + l) / y : Nat) : Int), (((h * 4294967296 + l) % y : Nat) : Int)) ∧ (h * 4294967296 + l) / y < 4294967296 := by
  have hq : (h * 4294967296 + l) / y < 4294967296 := by
    rw [Nat.div_lt_iff_lt_mul (by omega)]
    have : (h + 1) * 4294967296 ≤ y * 4294967296 := Nat.mul_le_mul_right _ (by omega)
    omega
  refine ⟨?_, hq⟩
  have hr : (h * 4294967296 + l) % y < y := Nat.mod_lt _ (by omega)
  have hor : Go.bits .or .u64 (IntKind.u64.wrap (IntKind.u64.wrap (h : Int) * 4294967296)) (IntKind.u64.wrap (l : Int)) = ((h * 4294967296 + l : Nat) : Int) := by
    rw [u64n (a := h) (by omega), u64n (a := l) (by omega), show (h : Int) * 4294967296 = ((h * 4294967296 : Nat) : Int) from rfl, u64n (by omega), u64_or_nat _ _ (by omega) (by omega), nat_join 32 _ _ (by omega) (by omega)]
  unfold bits_Div32.f
  rw [if_neg (by omega), if_neg (by omega), hor, u64n (a := y) (by omega), if_neg (by omega)]
  rw [show Int.tdiv ((h * 4294967296 + l : Nat) : Int) (y : Int) = (((h * 4294967296 + l) / y : Nat) : Int) from rfl, show Int.tmod ((h * 4294967296 + l : Nat) : Int) (y : Int) = (((h * 4294967296 + l) % y : Nat) : Int) from rfl, u64n (by omega), modN, modN, Nat.mod_eq_of_lt hq, Nat.mod_eq_of_lt (by omega)]
theorem short_l (l : List Int) (y : Nat) (hl : okL l) (hb : l.length ≤ 17592186044416) (hy0 : 0 < y) (hy : y < 4294967296) (d : Nat) : ∀ (k r : Nat) (out : List Int), d ≤ l.length → okL out → out.length = l.length → r < y →
    vL (out.drop d) * y + r = vL (l.drop d) → ∃ j, bigint_limbs_short.l0 (k + j) l (y : Int) out (r : Int) ((d : Int) - 1) = some (toL (vL l / y), ((vL l % y : Nat) : Int)) := by
  induction d with
  | zero =>
    intro k r out hd hok hlen hr hv
    obtain ⟨j, hj⟩ := trim_to (l := out) (by omega) hok
    have hj2 := at_rounds (bigint_limbs_trim.mono _) (Nat.le_add_left j k) hj
    refine ⟨j + 1, ?_⟩
    rw [← Nat.add_assoc, bigint_limbs_short.l0]
    rw [if_neg (by omega), hj2, Option.bind_some]
    rw [List.drop_zero, List.drop_zero] at hv
    have h1 : vL l / y = vL out := by rw [← hv, Nat.mul_comm, Nat.mul_add_div hy0, Nat.div_eq_of_lt hr]; simp
    have h2 : vL l % y = r := by rw [← hv, Nat.mul_comm, Nat.mul_add_mod, Nat.mod_eq_of_lt hr]
    rw [h1, h2]
  | succ d ih =>
    intro k r out hd hok hlen hr hv
    have HV := Aside0.mk hv
    clear hv
    have hdl : d < l.length := by omega
    have hdo : d < out.length := by omega
    have e1 : ((d + 1 : Nat) : Int) - 1 = (d : Int) := by omega
    have e2 : wrap64 ((d : Int) - 1) = (d : Int) - 1 := w64 (by omega) (by omega)
    obtain ⟨a, ha, hea⟩ := limb_nat hl d hdl
    have hra : rd l (d : Int) = (a : Int) := by rw [rd_nat hdl, hea]
    obtain ⟨hdv, hq⟩ := div32 r a y hy ha hr
    have hm : (r * 4294967296 + a) % y < y := Nat.mod_lt _ hy0
    obtain ⟨j, hj⟩ := ih k ((r * 4294967296 + a) % y) (out.set d (((r * 4294967296 + a) / y : Nat) : Int)) (by omega) (okL_set hok _ _ (Int.natCast_nonneg _) (Int.ofNat_lt.2 hq)) (by rw [List.length_set]; exact hlen) hm (by
      rw [List.drop_eq_getElem_cons (l := out.set d _) (by simpa using hdo), List.getElem_set_self, List.drop_set_of_lt (by omega), List.drop_eq_getElem_cons hdl, hea, vL_cons, vL_cons, Int.toNat_natCast, Int.toNat_natCast, ← HV.out]
      have h1 := Nat.div_add_mod (r * 4294967296 + a) y
      generalize (r * 4294967296 + a) / y = q at *
      generalize (r * 4294967296 + a) % y = m at *
      grind)
    refine ⟨j + 1, ?_⟩
    rw [← Nat.add_assoc, bigint_limbs_short.l0]
    rw [e1, hra, hdv, e2, if_pos (by omega), if_pos (by omega), if_pos (by omega), Option.bind_some, if_pos (by omega), Int.toNat_natCast]
    exact hj
theorem short_to {l : List Int} (hl : okL l) (hb : l.length ≤ 17592186044416) (y : Nat) (hy0 : 0 < y) (hy : y < 4294967296) : To (fun k => bigint_limbs_short.f k l (y : Int)) (toL (vL l / y), ((vL l % y : Nat) : Int)) := by
  obtain ⟨k, hk⟩ := short_l l y hl hb hy0 hy l.length 0 0 (List.replicate l.length 0) (Nat.le_refl _) (okL_replicate _) (by simp) hy0 (by rw [List.drop_of_length_le (by simp), List.drop_of_length_le (Nat.le_refl _)]; simp [vL_nil])
  refine ⟨0 + k, ?_⟩
  show bigint_limbs_short.f _ _ _ = _
  unfold bigint_limbs_short.f
  rw [if_pos (by omega), Int.toNat_natCast, if_pos (by omega), show wrap64 ((l.length : Int) - 1) = (l.length : Int) - 1 from w64 (by omega) (by omega)]
  exact hk
theorem add32 (x y c : Nat) (hx : x < 4294967296) (hy : y < 4294967296) (hc : c ≤ 1) : bits_Add32.f (x : Int) (y : Int) (c : Int) = some ((((x + y + c) % 4294967296 : Nat) : Int), (((x + y + c) / 4294967296 : Nat) : Int)) := by
  unfold bits_Add32.f
  rw [u64n (a := x) (by omega), add2 hy (by omega), add2 (a := c) (by omega) (by omega), modN, divN, modN, Nat.mod_eq_of_lt (a := (x + y + c) / 4294967296) (by omega)]
end Go.Proofs.Ytkmblomkocfldaa.F

/- The plain law of long division: a digit of the quotient is guessed from the leading limbs, corrected, and its multiple taken away. -/
set_option linter.unusedVariables false
namespace Go.Proofs.Ytkmblomkocfldaa.F
open Go.RowKit Go.Proofs.Ytkmblomkocfldaa.Sp Go.Proofs.YtkmblomkocfldaaW.PrintWords Go.Proofs.YtkmblomkocfldaaW.PrintMore

/-! ### the guess, as numbers -/
theorem g_lt {P X Y u2 v1 v2 top g r : Nat} (hX : X < P) (hg : g * v1 + r = top) (h : r * 4294967296 + u2 < g * v2) :
    X + P * (top * 4294967296 + u2) < g * (Y + P * (v1 * 4294967296 + v2)) := by
  have h1 : top * 4294967296 + u2 + 1 ≤ g * (v1 * 4294967296 + v2) := by
    rw [← hg]
    have : g * (v1 * 4294967296 + v2) = g * v1 * 4294967296 + g * v2 := by grind
    rw [this]
    omega
  have h2 := Nat.mul_le_mul_left P h1
  have h3 : g * (Y + P * (v1 * 4294967296 + v2)) = g * Y + P * (g * (v1 * 4294967296 + v2)) := by grind
  rw [h3]
  rw [Nat.mul_add P (top * 4294967296 + u2) 1, Nat.mul_one] at h2
  exact Nat.lt_of_lt_of_le (by omega) (Nat.le_trans h2 (Nat.le_add_left _ _))
theorem g_ge {P X Y u2 v1 v2 top g r : Nat} (hY : Y < P) (hv1 : 1 ≤ v1) (hgB : g < 4294967296) (hg : g * v1 + r = top) (h : g * v2 ≤ r * 4294967296 + u2) :
    g * (Y + P * (v1 * 4294967296 + v2)) ≤ X + P * (top * 4294967296 + u2) + (Y + P * (v1 * 4294967296 + v2)) := by
  have h1 : g * (v1 * 4294967296 + v2) ≤ top * 4294967296 + u2 := by
    rw [← hg]
    have : g * (v1 * 4294967296 + v2) = g * v1 * 4294967296 + g * v2 := by grind
    rw [this]
    omega
  have h2 := Nat.mul_le_mul_left P h1
  have h3 : g * (Y + P * (v1 * 4294967296 + v2)) = g * Y + P * (g * (v1 * 4294967296 + v2)) := by grind
  have h4 : g * Y ≤ 4294967296 * P := Nat.mul_le_mul (by omega) (by omega)
  have h5 : 4294967296 * P ≤ (v1 * 4294967296 + v2) * P := Nat.mul_le_mul_right P (by omega)
  rw [Nat.mul_comm (v1 * 4294967296 + v2)] at h5
  rw [h3]
  have h6 := Nat.add_le_add (Nat.le_trans h4 h5) h2
  refine Nat.le_trans h6 ?_
  rw [Nat.add_comm]
  exact Nat.add_le_add (Nat.le_add_left _ _) (Nat.le_add_left _ _)
theorem g_start {P X Y u2 v1 v2 top q : Nat} (hX : X < P) (hu2 : u2 < 4294967296) (hv1 : 1 ≤ v1) (hq : q * (Y + P * (v1 * 4294967296 + v2)) ≤ X + P * (top * 4294967296 + u2)) : q ≤ top / v1 := by
  rw [Nat.le_div_iff_mul_le hv1]
  rcases Nat.lt_or_ge top (q * v1) with h | h
  · exfalso
    have h1 : top * 4294967296 + u2 + 1 ≤ q * (v1 * 4294967296 + v2) := by
      have : q * (v1 * 4294967296 + v2) = q * v1 * 4294967296 + q * v2 := by grind
      rw [this]
      omega
    have h2 := Nat.mul_le_mul_left P h1
    have h3 : q * (Y + P * (v1 * 4294967296 + v2)) = q * Y + P * (q * (v1 * 4294967296 + v2)) := by grind
    rw [h3] at hq
    rw [Nat.mul_add P (top * 4294967296 + u2) 1, Nat.mul_one] at h2
    have h4 := Nat.le_trans (Nat.le_trans h2 (Nat.le_add_left _ (q * Y))) hq
    omega
  · exact h

/-! ### the guess, as the loop finds it -/
theorem sub1_64 (k : Nat) (h1 : 1 ≤ k) (h2 : k ≤ 140737488355328) : wrap64 ((k : Int) - 1) = ((k - 1 : Nat) : Int) := (w64 (by omega) (by omega)).trans (by omega)
theorem sub2_64 (k : Nat) (h1 : 2 ≤ k) (h2 : k ≤ 140737488355328) : wrap64 ((k : Int) - 2) = ((k - 2 : Nat) : Int) := (w64 (by omega) (by omega)).trans (by omega)
theorem addN_64 (i k : Nat) (h : i + k ≤ 140737488355328) : wrap64 ((i : Int) + (k : Int)) = ((i + k : Nat) : Int) := (w64 (by omega) (by omega)).trans (by omega)
theorem or64 (r u : Nat) (hr : r < 4294967296) (hu : u < 4294967296) : Go.bits .or .u64 (IntKind.u64.wrap ((r : Int) * 4294967296)) (IntKind.u64.wrap (u : Int)) = ((r * 4294967296 + u : Nat) : Int) := by
  rw [u64n (a := u) (by omega), show (r : Int) * 4294967296 = ((r * 4294967296 : Nat) : Int) from rfl, u64n (by omega), u64_or_nat _ _ (by omega) (by omega), nat_join 32 _ _ (by omega) (by omega)]
theorem mul64 (g v : Nat) (hg : g < 4294967296) (hv : v < 4294967296) : IntKind.u64.wrap ((g : Int) * IntKind.u64.wrap (v : Int)) = ((g * v : Nat) : Int) := by
  have := Nat.mul_le_mul (show g ≤ 4294967295 by omega) (show v ≤ 4294967295 by omega)
  rw [u64n (a := v) (by omega), ← Int.natCast_mul, u64n (by omega)]
theorem guess_l (u v : List Int) (i : Nat) (hb : i + v.length < u.length) (hbu : u.length ≤ 17592186044416) (hk : 2 ≤ v.length) (u2 v1 v2 : Nat) (hu2 : u2 < 4294967296) (hv1 : v1 < 4294967296) (hv1' : 1 ≤ v1) (hv2 : v2 < 4294967296)
    (eu : rd u ((i + v.length - 2 : Nat) : Int) = (u2 : Int)) (ev1 : rd v ((v.length - 1 : Nat) : Int) = (v1 : Int)) (ev2 : rd v ((v.length - 2 : Nat) : Int) = (v2 : Int))
    (P X Y top : Nat) (hX : X < P) (hY : Y < P) (htop : top < 18446744073709551616) (q : Nat) (hqB : q < 4294967296) (hq1 : q * (Y + P * (v1 * 4294967296 + v2)) ≤ X + P * (top * 4294967296 + u2)) (hq2 : X + P * (top * 4294967296 + u2) < (q + 1) * (Y + P * (v1 * 4294967296 + v2))) (n : Nat) :
    ∀ g r : Nat, g = n → g * v1 + r = top → q ≤ g → ∃ g', q ≤ g' ∧ g' ≤ q + 1 ∧ g' < 4294967296 ∧ ∃ m, ∀ K, bigint_limbs_digit.l0 (K + m) u v (i : Int) (v.length : Int) (g : Int) (r : Int) = bigint_limbs_digit.j2 K u v (i : Int) (v.length : Int) (g' : Int) := by
  have hpos : 0 < Y + P * (v1 * 4294967296 + v2) := by
    have : P * 1 ≤ P * (v1 * 4294967296 + v2) := Nat.mul_le_mul_left P (by omega)
    omega
  -- what leaves the loop
  have out : ∀ g r : Nat, g < 4294967296 → g * v1 + r = top → g * v2 ≤ r * 4294967296 + u2 → g ≤ q + 1 := by
    intro g r h1 h2 h3
    have h4 := g_ge (X := X) hY hv1' h1 h2 h3
    rcases Nat.lt_or_ge (q + 1) g with h5 | h5
    · exfalso
      have h6 := Nat.mul_le_mul_right (Y + P * (v1 * 4294967296 + v2)) h5
      rw [Nat.succ_mul] at h6
      omega
    · exact h5
  have wide : ∀ g r : Nat, g < 4294967296 → 4294967296 ≤ r → g * v2 ≤ r * 4294967296 + u2 := by
    intro g r h1 h2
    have h3 : g * v2 ≤ 4294967296 * 4294967296 := Nat.mul_le_mul (by omega) (by omega)
    have h4 : 4294967296 * 4294967296 ≤ r * 4294967296 := Nat.mul_le_mul_right _ h2
    omega
  -- a round that goes on
  have down : ∀ g r : Nat, g * v1 + r = top → (4294967296 ≤ g ∨ r * 4294967296 + u2 < g * v2) → q + 1 ≤ g := by
    intro g r h1 h2
    rcases h2 with h2 | h2
    · omega
    · have h3 := g_lt (Y := Y) hX h1 h2
      rcases Nat.lt_or_ge q g with h4 | h4
      · exact h4
      · exfalso
        have := Nat.mul_le_mul_right (Y + P * (v1 * 4294967296 + v2)) h4
        omega
  clear hq1 hq2 hpos
  have hvl : v.length ≤ 140737488355328 := by omega
  have hvl1 : 1 ≤ v.length := by omega
  have hil : i + v.length ≤ 140737488355328 := by omega
  have hil2 : 2 ≤ i + v.length := by omega
  have hw2 := Aside0.mk (sub2_64 v.length hk hvl)
  have hw1 := Aside0.mk (sub1_64 v.length hvl1 hvl)
  have hwi := Aside0.mk (addN_64 i v.length hil)
  have hwi2 := Aside0.mk (sub2_64 (i + v.length) hil2 hil)
  have b1 : (0 : Int) ≤ ((v.length - 2 : Nat) : Int) ∧ ((v.length - 2 : Nat) : Int) < (v.length : Int) := by omega
  have b2 : (0 : Int) ≤ ((v.length - 1 : Nat) : Int) ∧ ((v.length - 1 : Nat) : Int) < (v.length : Int) := by omega
  have b3 : (0 : Int) ≤ ((i + v.length - 2 : Nat) : Int) ∧ ((i + v.length - 2 : Nat) : Int) < (u.length : Int) := by omega
  induction n with
  | zero =>
    intro g r hn hg hq
    subst hn
    have hr : r = top := by omega
    refine ⟨0, hq, by omega, by omega, 2, fun K => ?_⟩
    rw [show K + 2 = (K + 1) + 1 from rfl, bigint_limbs_digit.l0]
    rw [if_neg (by omega)]
    by_cases hr32 : (r : Int) / 4294967296 = 0
    · rw [if_pos hr32, hw2.out, if_pos b1.1, if_pos b1.2, hwi.out, hwi2.out, if_pos b3.1, if_pos b3.2, ev2, eu, mul64 0 v2 (by omega) hv2, or64 r u2 (by omega) hu2, decide_eq_false (show ¬ (((0 * v2 : Nat) : Int) > ((r * 4294967296 + u2 : Nat) : Int)) by rw [Nat.zero_mul]; omega), bigint_limbs_digit.j1]
      rw [if_neg (by simp)]
    · rw [if_neg hr32, bigint_limbs_digit.j1]
      rw [if_neg (by simp)]
  | succ n ih =>
    intro g r hn hg hq
    have hgv : n * v1 + (r + v1) = top := by rw [← hg, hn, Nat.succ_mul]; omega
    have hg64 : g < 18446744073709551616 := by
      have := Nat.le_mul_of_pos_right g hv1'
      omega
    -- the round's body
    have body : q + 1 ≤ g → ∃ g', q ≤ g' ∧ g' ≤ q + 1 ∧ g' < 4294967296 ∧ ∃ m, ∀ K, bigint_limbs_digit.j1 (K + m) u v (i : Int) (v.length : Int) (g : Int) (r : Int) true = bigint_limbs_digit.j2 K u v (i : Int) (v.length : Int) (g' : Int) := by
      intro hq3
      have hrv : r + v1 < 18446744073709551616 := by omega
      have e2 : Aside0 (IntKind.u64.wrap ((g : Int) - 1) = ((n : Nat) : Int)) := ⟨(u64w (by omega) (by omega)).trans (by omega)⟩
      have e1 := Aside0.mk (add2 (c := r) hv1 hrv)
      by_cases hc : 4294967296 ≤ r + v1 ∧ n < 4294967296
      · refine ⟨n, by omega, out n (r + v1) hc.2 hgv (wide _ _ hc.2 hc.1), hc.2, 1, fun K => ?_⟩
        rw [bigint_limbs_digit.j1]
        rw [if_pos rfl, hw1.out, if_pos b2.1, if_pos b2.2, ev1, e1.out, e2.out, if_pos (by omega), if_pos (by omega)]
      · obtain ⟨g', h1, h2, h3, m, h4⟩ := ih n (r + v1) rfl hgv (by omega)
        refine ⟨g', h1, h2, h3, m + 1, fun K => ?_⟩
        rw [← Nat.add_assoc, bigint_limbs_digit.j1]
        rw [if_pos rfl, hw1.out, if_pos b2.1, if_pos b2.2, ev1, e1.out, e2.out]
        by_cases hc2 : ((r + v1 : Nat) : Int) / 4294967296 > 0
        · rw [if_pos hc2, if_neg (by omega)]
          exact h4 K
        · rw [if_neg hc2]
          exact h4 K
    by_cases h32 : 4294967296 ≤ g
    · obtain ⟨g', h1, h2, h3, m, h4⟩ := body (down g r hg (.inl h32))
      refine ⟨g', h1, h2, h3, m + 1, fun K => ?_⟩
      rw [← Nat.add_assoc, bigint_limbs_digit.l0]
      rw [if_pos (by omega)]
      exact h4 K
    · by_cases hr32 : 4294967296 ≤ r
      · refine ⟨g, hq, out g r (by omega) hg (wide g r (by omega) hr32), by omega, 2, fun K => ?_⟩
        rw [show K + 2 = (K + 1) + 1 from rfl, bigint_limbs_digit.l0]
        rw [if_neg (by omega), if_neg (by omega), bigint_limbs_digit.j1]
        rw [if_neg (by simp)]
      · have hg32 : g < 4294967296 := by omega
        have hr33 : r < 4294967296 := by omega
        have e3 := Aside0.mk (mul64 g v2 hg32 hv2)
        have e4 := Aside0.mk (or64 r u2 hr33 hu2)
        by_cases hc : r * 4294967296 + u2 < g * v2
        · obtain ⟨g', h1, h2, h3, m, h4⟩ := body (down g r hg (.inr hc))
          refine ⟨g', h1, h2, h3, m + 1, fun K => ?_⟩
          rw [← Nat.add_assoc, bigint_limbs_digit.l0]
          rw [if_neg (by omega), if_pos (by omega), hw2.out, if_pos b1.1, if_pos b1.2, hwi.out, hwi2.out, if_pos b3.1, if_pos b3.2, ev2, eu, e3.out, e4.out, decide_eq_true (Int.ofNat_lt.2 hc)]
          exact h4 K
        · refine ⟨g, hq, out g r (by omega) hg (by omega), by omega, 2, fun K => ?_⟩
          rw [show K + 2 = (K + 1) + 1 from rfl, bigint_limbs_digit.l0]
          rw [if_neg (by omega), if_pos (by omega), hw2.out, if_pos b1.1, if_pos b1.2, hwi.out, hwi2.out, if_pos b3.1, if_pos b3.2, ev2, eu, e3.out, e4.out, decide_eq_false (fun h => hc (Int.ofNat_lt.1 h)), bigint_limbs_digit.j1]
          rw [if_neg (by simp)]

/-! ### the multiple is taken away -/
theorem msub_l (v : List Int) (hv : okL v) (i g : Nat) (hg : g < 4294967296) (d : Nat) : ∀ (j c b T : Nat) (u : List Int), j + d = v.length → okL u → u.length ≤ 17592186044416 → i + v.length < u.length → c < 4294967296 → b ≤ 1 →
    vL u + 4294967296 ^ i * (g * vL (v.take j)) = T + 4294967296 ^ (i + j) * (c + b) →
    ∃ (u' : List Int) (c' b' : Nat), okL u' ∧ u'.length = u.length ∧ u'.drop (i + v.length) = u.drop (i + v.length) ∧ c' < 4294967296 ∧ b' ≤ 1 ∧ vL u' + 4294967296 ^ i * (g * vL v) = T + 4294967296 ^ (i + v.length) * (c' + b') ∧
      ∀ K, bigint_limbs_digit.l1 (K + d + 1) u v (i : Int) (v.length : Int) (g : Int) (c : Int) (b : Int) v (v.length : Int) (j : Int) = bigint_limbs_digit.l1 (K + 1) u' v (i : Int) (v.length : Int) (g : Int) (c' : Int) (b' : Int) v (v.length : Int) (v.length : Int) := by
  induction d with
  | zero =>
    intro j c b T u hj hok hbu hiu hc hb hT
    have hj' : j = v.length := by omega
    subst hj'
    rw [List.take_of_length_le (Nat.le_refl _)] at hT
    exact ⟨u, c, b, hok, rfl, rfl, hc, hb, hT, fun K => rfl⟩
  | succ d ih =>
    intro j c b T u hj hok hbu hiu hc hb hT
    have HT := Aside0.mk hT
    clear hT
    have hjv : j < v.length := by omega
    have hij : i + j < u.length := by omega
    have hj64 : j ≤ 140737488355328 := by omega
    have hj1 : j + 1 + d = v.length := by omega
    have hwi := addN_64 i j (by omega)
    obtain ⟨y, hy, hey⟩ := limb_nat hv j hjv
    obtain ⟨x, hx, hex⟩ := limb_nat hok (i + j) hij
    have hry : rd v (j : Int) = (y : Int) := by rw [rd_nat hjv, hey]
    have hrx : rd u ((i + j : Nat) : Int) = (x : Int) := by rw [rd_nat hij, hex]
    have HS := Aside0.mk (vL_take_succ v j hjv)
    rw [hey, Int.toNat_natCast] at HS
    have hgy : g * y ≤ 4294967295 * 4294967295 := Nat.mul_le_mul (by omega) (by omega)
    have hn : IntKind.u64.wrap ((c : Int) + IntKind.u64.wrap ((g : Int) * IntKind.u64.wrap (y : Int))) = ((c + g * y : Nat) : Int) := by
      rw [mul64 g y hg hy, ← Int.natCast_add, u64n (by omega)]
    have hc' : (c + g * y) / 4294967296 < 4294967296 := by omega
    have hlo : (c + g * y) % 4294967296 < 4294967296 := Nat.mod_lt _ (by decide)
    have hsub := sub32 x ((c + g * y) % 4294967296) b hx hlo hb
    have hD : (x + 8589934592 - (c + g * y) % 4294967296 - b) % 4294967296 + (c + g * y) % 4294967296 + b = x + 4294967296 * (if x < (c + g * y) % 4294967296 + b then 1 else 0) := by
      generalize (c + g * y) % 4294967296 = z at *
      split <;> omega
    have hb' : (if x < (c + g * y) % 4294967296 + b then 1 else 0 : Nat) ≤ 1 := by split <;> omega
    generalize hbb : (if x < (c + g * y) % 4294967296 + b then 1 else 0 : Nat) = b' at *
    have hDlt : (x + 8589934592 - (c + g * y) % 4294967296 - b) % 4294967296 < 4294967296 := Nat.mod_lt _ (by decide)
    generalize (x + 8589934592 - (c + g * y) % 4294967296 - b) % 4294967296 = D at *
    have HV := Aside0.mk (vL_set u (i + j) hij (D : Int))
    rw [hex, Int.toNat_natCast, Int.toNat_natCast] at HV
    obtain ⟨u', c2, b2, h1, h2, h3, h4, h5, h6, h7⟩ := ih (j + 1) ((c + g * y) / 4294967296) b' T (u.set (i + j) (D : Int)) hj1 (okL_set hok _ _ (Int.natCast_nonneg _) (Int.ofNat_lt.2 hDlt)) (by rw [List.length_set]; exact hbu) (by rw [List.length_set]; exact hiu) hc' hb' (by
      have hT := HT.out
      have hS := HS.out
      have hV := HV.out
      rw [hS, show i + (j + 1) = (i + j) + 1 from rfl, Nat.pow_succ]
      have e1 : 4294967296 ^ i * (g * (vL (v.take j) + 4294967296 ^ j * y)) = 4294967296 ^ i * (g * vL (v.take j)) + 4294967296 ^ (i + j) * (g * y) := by rw [Nat.pow_add]; grind
      have e2 : 4294967296 ^ (i + j) * ((c + g * y) % 4294967296) + 4294967296 ^ (i + j) * 4294967296 * ((c + g * y) / 4294967296) = 4294967296 ^ (i + j) * (c + g * y) := by
        rw [Nat.mul_assoc, ← Nat.mul_add, Nat.mod_add_div]
      have e3 := congrArg (4294967296 ^ (i + j) * ·) hD
      simp only [Nat.mul_add] at e1 e2 e3 hT ⊢
      rw [← Nat.mul_assoc] at e3
      generalize 4294967296 ^ i * (g * (4294967296 ^ j * y)) = a6 at *
      generalize 4294967296 ^ (i + j) * ((c + g * y) % 4294967296) = a1 at *
      generalize 4294967296 ^ (i + j) * 4294967296 * ((c + g * y) / 4294967296) = a2 at *
      generalize 4294967296 ^ (i + j) * 4294967296 * b' = a3 at *
      generalize 4294967296 ^ (i + j) * (g * y) = a4 at *
      generalize 4294967296 ^ i * (g * vL (v.take j)) = a5 at *
      omega)
    refine ⟨u', c2, b2, h1, by rw [h2, List.length_set], by rw [h3, List.drop_set_of_lt (by omega)], h4, h5, h6, fun K => ?_⟩
    clear h6
    have h8 := h7 K
    rw [show K + (d + 1) + 1 = (K + d + 1) + 1 by omega, bigint_limbs_digit.l1]
    rw [if_pos (by omega), if_pos (by omega), if_pos (by omega), hwi, if_pos (Int.natCast_nonneg _), if_pos (Int.ofNat_lt.2 hij), hrx, hry, hn, modN, divN, hsub, Option.bind_some, succ64 j hj64, Int.toNat_natCast]
    exact h8

/-! ### one too many is given back -/
theorem addb_l (v : List Int) (hv : okL v) (i g : Nat) (d : Nat) : ∀ (j s T : Nat) (u : List Int), j + d = v.length → okL u → u.length ≤ 17592186044416 → i + v.length < u.length → s ≤ 1 →
    vL u + 4294967296 ^ (i + j) * s = T + 4294967296 ^ i * vL (v.take j) →
    ∃ (u' : List Int) (s' : Nat), okL u' ∧ u'.length = u.length ∧ u'.drop (i + v.length) = u.drop (i + v.length) ∧ s' ≤ 1 ∧ vL u' + 4294967296 ^ (i + v.length) * s' = T + 4294967296 ^ i * vL v ∧
      ∀ K, bigint_limbs_digit.l2 (K + d + 1) u (i : Int) (v.length : Int) (g : Int) (s : Int) v (v.length : Int) (j : Int) = bigint_limbs_digit.l2 (K + 1) u' (i : Int) (v.length : Int) (g : Int) (s' : Int) v (v.length : Int) (v.length : Int) := by
  induction d with
  | zero =>
    intro j s T u hj hok hbu hiu hs hT
    have hj' : j = v.length := by omega
    subst hj'
    rw [List.take_of_length_le (Nat.le_refl _)] at hT
    exact ⟨u, s, hok, rfl, rfl, hs, hT, fun K => rfl⟩
  | succ d ih =>
    intro j s T u hj hok hbu hiu hs hT
    have HT := Aside0.mk hT
    clear hT
    have hjv : j < v.length := by omega
    have hij : i + j < u.length := by omega
    have hj64 : j ≤ 140737488355328 := by omega
    have hj1 : j + 1 + d = v.length := by omega
    have hwi := addN_64 i j (by omega)
    obtain ⟨y, hy, hey⟩ := limb_nat hv j hjv
    obtain ⟨x, hx, hex⟩ := limb_nat hok (i + j) hij
    have hry : rd v (j : Int) = (y : Int) := by rw [rd_nat hjv, hey]
    have hrx : rd u ((i + j : Nat) : Int) = (x : Int) := by rw [rd_nat hij, hex]
    have HS := Aside0.mk (vL_take_succ v j hjv)
    rw [hey, Int.toNat_natCast] at HS
    have hadd := add32 x y s hx hy hs
    have hlo : (x + y + s) % 4294967296 < 4294967296 := Nat.mod_lt _ (by decide)
    have hs' : (x + y + s) / 4294967296 ≤ 1 := by omega
    have HV := Aside0.mk (vL_set u (i + j) hij (((x + y + s) % 4294967296 : Nat) : Int))
    rw [hex, Int.toNat_natCast, Int.toNat_natCast] at HV
    obtain ⟨u', s2, h1, h2, h3, h4, h5, h6⟩ := ih (j + 1) ((x + y + s) / 4294967296) T (u.set (i + j) (((x + y + s) % 4294967296 : Nat) : Int)) hj1 (okL_set hok _ _ (Int.natCast_nonneg _) (Int.ofNat_lt.2 hlo)) (by rw [List.length_set]; exact hbu) (by rw [List.length_set]; exact hiu) hs' (by
      have hT := HT.out
      have hS := HS.out
      have hV := HV.out
      rw [hS, show i + (j + 1) = (i + j) + 1 from rfl, Nat.pow_succ]
      have e1 : 4294967296 ^ i * (vL (v.take j) + 4294967296 ^ j * y) = 4294967296 ^ i * vL (v.take j) + 4294967296 ^ (i + j) * y := by rw [Nat.pow_add]; grind
      have e2 : 4294967296 ^ (i + j) * ((x + y + s) % 4294967296) + 4294967296 ^ (i + j) * 4294967296 * ((x + y + s) / 4294967296) = 4294967296 ^ (i + j) * (x + y + s) := by
        rw [Nat.mul_assoc, ← Nat.mul_add, Nat.mod_add_div]
      simp only [Nat.mul_add] at e2 ⊢
      simp only [Nat.mul_add] at e1
      rw [e1]
      generalize 4294967296 ^ (i + j) * ((x + y + s) % 4294967296) = a1 at *
      generalize 4294967296 ^ (i + j) * 4294967296 * ((x + y + s) / 4294967296) = a2 at *
      generalize 4294967296 ^ i * vL (v.take j) = a5 at *
      omega)
    refine ⟨u', s2, h1, by rw [h2, List.length_set], by rw [h3, List.drop_set_of_lt (by omega)], h4, h5, fun K => ?_⟩
    clear h5
    have h8 := h6 K
    rw [show K + (d + 1) + 1 = (K + d + 1) + 1 by omega, bigint_limbs_digit.l2]
    rw [if_pos (by omega), if_pos (by omega), if_pos (by omega), hwi, if_pos (Int.natCast_nonneg _), if_pos (Int.ofNat_lt.2 hij), hrx, hry, hadd, Option.bind_some, succ64 j hj64, Int.toNat_natCast]
    exact h8
end Go.Proofs.Ytkmblomkocfldaa.F

/- The plain law of long division: a digit of the quotient; quotient and remainder. -/
set_option linter.unusedVariables false
namespace Go.Proofs.Ytkmblomkocfldaa.F
open Go.RowKit Go.Proofs.Ytkmblomkocfldaa.Sp Go.Proofs.YtkmblomkocfldaaW.PrintWords Go.Proofs.YtkmblomkocfldaaW.PrintMore

/-! ### a digit -/
theorem vL_low {l : List Int} (h : okL l) (i : Nat) (hi : i ≤ l.length) (hz : vL (l.drop i) = 0) : vL l < 4294967296 ^ i := by
  have h1 := vL_take_add l i hi
  have h2 := vL_lt (okL_take h i)
  rw [List.length_take, Nat.min_eq_left hi] at h2
  rw [hz, Nat.mul_zero, Nat.add_zero] at h1
  rw [h1]
  exact h2
theorem vL_high {l : List Int} (i : Nat) (hi : i ≤ l.length) (h : vL l < 4294967296 ^ i) : vL (l.drop i) = 0 := by
  have h1 := vL_take_add l i hi
  rcases Nat.eq_zero_or_pos (vL (l.drop i)) with h2 | h2
  · exact h2
  · have := Nat.le_mul_of_pos_right (4294967296 ^ i) h2
    omega
theorem fin_a {A VV y g q : Nat} (h : y + g * VV = A) (hq : A < (q + 1) * VV) (hg : q ≤ g) : g = q := by
  rcases Nat.lt_or_ge q g with h1 | h1
  · exfalso
    have := Nat.mul_le_mul_right VV (show q + 1 ≤ g from h1)
    omega
  · omega
theorem fin_b {A VV y g q Q : Nat} (h : y + g * VV = A + Q) (hy : y < Q) (hq : q * VV ≤ A) (hg : q ≤ g) (hg2 : g ≤ q + 1) : g = q + 1 := by
  rcases Nat.lt_or_ge q g with h1 | h1
  · omega
  · exfalso
    have : g = q := by omega
    subst this
    omega
theorem sub_fin {T A p G c b x D y0 y1 b2 B : Nat} (h1 : y0 + G = A + p * (c + b)) (h2 : y1 + p * x = y0 + p * D) (h3 : D + c + b = x + B * b2) : y1 + G = A + p * B * b2 := by
  have h4 := congrArg (p * ·) h3
  simp only [Nat.mul_add] at h4 h1
  rw [← Nat.mul_assoc] at h4
  generalize p * B * b2 = a at *
  generalize p * D = d at *
  generalize p * c = e at *
  generalize p * b = f at *
  generalize p * x = k at *
  omega
theorem digit_to (u v : List Int) (i : Nat) (hu : okL u) (hv : okL v) (hk : 2 ≤ v.length) (hi : i + v.length < u.length) (hb : u.length ≤ 17592186044416) (v1 : Nat) (hv1 : v1 < 4294967296) (hv1n : 2147483648 ≤ v1)
    (ev1 : rd v ((v.length - 1 : Nat) : Int) = (v1 : Int)) (hlt : vL u < 4294967296 ^ (i + 1) * vL v) :
    ∃ (q : Nat) (u' : List Int), q < 4294967296 ∧ okL u' ∧ u'.length = u.length ∧ vL u' + 4294967296 ^ i * (q * vL v) = vL u ∧ vL u' < 4294967296 ^ i * vL v ∧ To (fun k => bigint_limbs_digit.f k u v (i : Int)) ((q : Int), u') := by
  have hlen1 : v.length - 1 < v.length := by omega
  have hlen2 : v.length - 2 < v.length := by omega
  have hu0 : i + v.length < u.length := hi
  have hu1 : i + v.length - 1 < u.length := by omega
  have hu2 : i + v.length - 2 < u.length := by omega
  have hvl : v.length ≤ 140737488355328 := by omega
  have hvl1 : 1 ≤ v.length := by omega
  have hil : i + v.length ≤ 140737488355328 := by omega
  have hil2 : 1 ≤ i + v.length := by omega
  have hid : i + v.length + 1 ≤ u.length := by omega
  obtain ⟨x0, hx0, ex0⟩ := limb_nat hu _ hu0
  obtain ⟨x1, hx1, ex1⟩ := limb_nat hu _ hu1
  obtain ⟨x2, hx2, ex2⟩ := limb_nat hu _ hu2
  obtain ⟨v2, hv2, ev2'⟩ := limb_nat hv _ hlen2
  have r0 : rd u ((i + v.length : Nat) : Int) = (x0 : Int) := by rw [rd_nat hu0, ex0]
  have r1 : rd u ((i + v.length - 1 : Nat) : Int) = (x1 : Int) := by rw [rd_nat hu1, ex1]
  have r2 : rd u ((i + v.length - 2 : Nat) : Int) = (x2 : Int) := by rw [rd_nat hu2, ex2]
  have ev2 : rd v ((v.length - 2 : Nat) : Int) = (v2 : Int) := by rw [rd_nat hlen2, ev2']
  have ev1' : v[v.length - 1] = (v1 : Int) := by rw [← rd_nat hlen1]; exact ev1
  -- the leading limbs
  have hVlt := vL_lt hv
  have hz : vL (u.drop (i + v.length + 1)) = 0 := by
    refine vL_high _ hid (Nat.lt_of_lt_of_le hlt ?_)
    rw [show i + v.length + 1 = (i + 1) + v.length by omega, Nat.pow_add 4294967296 (i + 1) v.length]
    exact Nat.mul_le_mul_left _ (Nat.le_of_lt hVlt)
  have hud : vL (u.drop (i + v.length - 2)) = (x0 * 4294967296 + x1) * 4294967296 + x2 := by
    rw [List.drop_eq_getElem_cons hu2, ex2, vL_cons, show i + v.length - 2 + 1 = i + v.length - 1 by omega, List.drop_eq_getElem_cons hu1, ex1, vL_cons, show i + v.length - 1 + 1 = i + v.length by omega, List.drop_eq_getElem_cons hu0, ex0, vL_cons, hz]
    simp only [Int.toNat_natCast]
    omega
  have hvd : vL (v.drop (v.length - 2)) = v1 * 4294967296 + v2 := by
    rw [List.drop_eq_getElem_cons hlen2, ev2', vL_cons, show v.length - 2 + 1 = v.length - 1 by omega, List.drop_eq_getElem_cons hlen1, ev1', vL_cons, List.drop_of_length_le (by omega), vL_nil]
    simp only [Int.toNat_natCast]
    omega
  have hU := vL_take_add u (i + v.length - 2) (by omega)
  rw [hud] at hU
  have hX := vL_lt (okL_take hu (i + v.length - 2))
  rw [List.length_take, Nat.min_eq_left (by omega)] at hX
  have hV := vL_take_add v (v.length - 2) (by omega)
  rw [hvd] at hV
  have hYv := vL_lt (okL_take hv (v.length - 2))
  rw [List.length_take, Nat.min_eq_left (by omega)] at hYv
  have hPe : 4294967296 ^ (i + v.length - 2) = 4294967296 ^ i * 4294967296 ^ (v.length - 2) := by rw [← Nat.pow_add]; congr 1; omega
  have hY : 4294967296 ^ i * vL (v.take (v.length - 2)) < 4294967296 ^ (i + v.length - 2) := by
    rw [hPe]; exact Nat.mul_lt_mul_of_pos_left hYv (Nat.pow_pos (by decide))
  have hVV : 4294967296 ^ i * vL v = 4294967296 ^ i * vL (v.take (v.length - 2)) + 4294967296 ^ (i + v.length - 2) * (v1 * 4294967296 + v2) := by
    rw [hPe, Nat.mul_assoc, ← Nat.mul_add, ← hV]
  have hVpos : 0 < 4294967296 ^ i * vL v := by
    rcases Nat.eq_zero_or_pos (vL v) with h | h
    · rw [h, Nat.mul_zero] at hlt; omega
    · exact Nat.mul_pos (Nat.pow_pos (by decide)) h
  have htop : x0 * 4294967296 + x1 < 18446744073709551616 := by omega
  -- the true digit
  have hq1 : vL u / (4294967296 ^ i * vL v) * (4294967296 ^ i * vL v) ≤ vL u := Nat.div_mul_le_self _ _
  have hq2 : vL u < (vL u / (4294967296 ^ i * vL v) + 1) * (4294967296 ^ i * vL v) := by
    rw [Nat.add_mul, Nat.one_mul]
    exact Nat.lt_div_mul_add hVpos
  have hqB : vL u / (4294967296 ^ i * vL v) < 4294967296 := by
    rw [Nat.div_lt_iff_lt_mul hVpos, ← Nat.mul_assoc, Nat.mul_comm 4294967296, ← Nat.pow_succ]
    exact hlt
  generalize hqq : vL u / (4294967296 ^ i * vL v) = q at *
  have hgs := g_start (P := 4294967296 ^ (i + v.length - 2)) (X := vL (u.take (i + v.length - 2))) (Y := 4294967296 ^ i * vL (v.take (v.length - 2))) (v2 := v2) hX hx2 (show 1 ≤ v1 by omega) (by rw [← hU, ← hVV]; exact hq1)
  obtain ⟨g, hg1, hg2, hg3, m, hloop⟩ := guess_l u v i hi hb hk x2 v1 v2 hx2 hv1 (by omega) hv2 r2 ev1 ev2 (4294967296 ^ (i + v.length - 2)) (vL (u.take (i + v.length - 2))) (4294967296 ^ i * vL (v.take (v.length - 2))) (x0 * 4294967296 + x1) hX hY htop q hqB (by rw [← hU, ← hVV]; exact hq1) (by rw [← hU, ← hVV]; exact hq2) _ _ ((x0 * 4294967296 + x1) % v1) rfl (by rw [Nat.mul_comm]; exact Nat.div_add_mod _ _) hgs
  clear hgs hqq
  obtain ⟨u', c, b, h1, h2, h3, h4, h5, h6, h7⟩ := msub_l v hv i g hg3 v.length 0 0 0 (vL u) u (by omega) hu hb hi (by omega) (by omega) (by rw [List.take_zero, vL_nil]; simp)
  have hu'0 : i + v.length < u'.length := by rw [h2]; exact hi
  have ex0' : u'[i + v.length] = (x0 : Int) := by
    have := congrArg (fun l => l[0]?) h3
    simp only [List.getElem?_drop, Nat.add_zero] at this
    rw [List.getElem?_eq_getElem hu'0, List.getElem?_eq_getElem hi, ex0] at this
    exact Option.some.inj this
  have r0' : rd u' ((i + v.length : Nat) : Int) = (x0 : Int) := by rw [rd_nat hu'0, ex0']
  have hD : (x0 + 8589934592 - c - b) % 4294967296 + c + b = x0 + 4294967296 * (if x0 < c + b then 1 else 0) := by
    clear h6 hloop hU hV hVV hX hY hYv hlt hq1 hq2 hVpos hVlt hPe hud hvd
    split <;> omega
  have hDlt : (x0 + 8589934592 - c - b) % 4294967296 < 4294967296 := Nat.mod_lt _ (by decide)
  have hsub := Aside0.mk (sub32 x0 c b hx0 h4 h5)
  generalize hbb : (if x0 < c + b then 1 else 0 : Nat) = b2 at *
  generalize (x0 + 8589934592 - c - b) % 4294967296 = D at *
  have hset := vL_set u' (i + v.length) hu'0 (D : Int)
  rw [ex0', Int.toNat_natCast, Int.toNat_natCast] at hset
  have hfin := sub_fin (T := 0) h6 hset hD
  have hyok : okL (u'.set (i + v.length) (D : Int)) := okL_set h1 _ _ (Int.natCast_nonneg _) (Int.ofNat_lt.2 hDlt)
  have hylen : (u'.set (i + v.length) (D : Int)).length = u.length := by rw [List.length_set]; exact h2
  have hdr : ∀ w : List Int, w.drop (i + v.length) = u.drop (i + v.length) → w.drop (i + v.length + 1) = u.drop (i + v.length + 1) := by
    intro w hw
    have := congrArg (fun l => l.drop 1) hw
    simpa [List.drop_drop] using this
  have hydrop : (u'.set (i + v.length) (D : Int)).drop (i + v.length + 1) = u.drop (i + v.length + 1) := by
    rw [List.drop_set_of_lt (by omega)]
    exact hdr _ h3
  have hylow : vL (u'.set (i + v.length) (D : Int)) < 4294967296 ^ (i + v.length + 1) := vL_low hyok _ (by rw [hylen]; exact hid) (by rw [hydrop]; exact hz)
  have hassoc : ∀ z : Nat, 4294967296 ^ i * (z * vL v) = z * (4294967296 ^ i * vL v) := fun z => by rw [Nat.mul_left_comm]
  have hpow1 : 4294967296 ^ (i + v.length) * 4294967296 = 4294967296 ^ (i + v.length + 1) := (Nat.pow_succ ..).symm
  rw [hassoc, hpow1] at hfin
  -- the call, up to the end of the loop that takes the multiple away
  have hcall : ∀ K, bigint_limbs_digit.f (K + v.length + 2 + m) u v (i : Int) = bigint_limbs_digit.l1 (K + 1) u' v (i : Int) (v.length : Int) (g : Int) (c : Int) (b : Int) v (v.length : Int) (v.length : Int) := by
    intro K
    have w1 := Aside0.mk (addN_64 i v.length hil)
    have w2 := Aside0.mk (sub1_64 (i + v.length) hil2 hil)
    have w3 := Aside0.mk (sub1_64 v.length hvl1 hvl)
    have w4 := Aside0.mk (u64n (a := x0) (by omega))
    have w5 := Aside0.mk (or64 x0 x1 hx0 hx1)
    have w6 := Aside0.mk (u64n (a := v1) (by omega))
    have w7 := Aside0.mk (u64n (a := (x0 * 4294967296 + x1) / v1) (Nat.lt_of_le_of_lt (Nat.div_le_self _ _) htop))
    have b1 : ((i + v.length : Nat) : Int) < (u.length : Int) := by omega
    have b2' : ((i + v.length - 1 : Nat) : Int) < (u.length : Int) := by omega
    have b3 : ((v.length - 1 : Nat) : Int) < (v.length : Int) := by omega
    have b4 : ¬ ((v1 : Nat) : Int) = 0 := by omega
    unfold bigint_limbs_digit.f
    rw [w1.out, if_pos (Int.natCast_nonneg _), if_pos b1, w2.out, if_pos (Int.natCast_nonneg _), if_pos b2', w3.out, if_pos (Int.natCast_nonneg _), if_pos b3, r0, r1, ev1, w4.out, w5.out, w6.out, if_neg b4]
    rw [show Int.tdiv ((x0 * 4294967296 + x1 : Nat) : Int) (v1 : Int) = (((x0 * 4294967296 + x1) / v1 : Nat) : Int) from rfl, show Int.tmod ((x0 * 4294967296 + x1 : Nat) : Int) (v1 : Int) = (((x0 * 4294967296 + x1) % v1 : Nat) : Int) from rfl, w7.out]
    rw [hloop (K + v.length + 2), show K + v.length + 2 = (K + v.length + 1) + 1 from rfl, bigint_limbs_digit.j2]
    exact h7 K
  have hlast : ∀ K, bigint_limbs_digit.l1 (K + 1) u' v (i : Int) (v.length : Int) (g : Int) (c : Int) (b : Int) v (v.length : Int) (v.length : Int) = if ((b2 : Nat) : Int) = 0 then some (((g : Nat) : Int) % 4294967296, u'.set (i + v.length) (D : Int)) else bigint_limbs_digit.l2 K (u'.set (i + v.length) (D : Int)) (i : Int) (v.length : Int) (g : Int) 0 v (v.length : Int) 0 := by
    intro K
    have w1 := Aside0.mk (addN_64 i v.length hil)
    have b1 : ((i + v.length : Nat) : Int) < (u'.length : Int) := Int.ofNat_lt.2 hu'0
    rw [bigint_limbs_digit.l1]
    rw [if_neg (Int.lt_irrefl _), w1.out, if_pos (Int.natCast_nonneg _), if_pos b1, r0', modN, Nat.mod_eq_of_lt h4, hsub.out, Option.bind_some, Option.bind_some, Int.toNat_natCast]
  have hb2 : b2 = 0 ∨ b2 = 1 := by
    rw [← hbb]
    by_cases h : x0 < c + b
    · right; rw [if_pos h]
    · left; rw [if_neg h]
  rcases hb2 with hb2 | hb2
  · -- the guess was right
    rw [hb2, Nat.mul_zero, Nat.add_zero] at hfin
    have hgq := fin_a hfin hq2 hg1
    subst hgq
    refine ⟨g, u'.set (i + v.length) (D : Int), hg3, hyok, hylen, by rw [hassoc]; exact hfin, ?_, 0 + v.length + 2 + m, ?_⟩
    · rw [Nat.add_mul, Nat.one_mul] at hq2
      omega
    · show bigint_limbs_digit.f _ _ _ _ = _
      rw [hcall 0, hlast 0, hb2, if_pos (show ((0 : Nat) : Int) = 0 from rfl), modN, Nat.mod_eq_of_lt hg3]
  · -- the guess was one too great
    rw [hb2, Nat.mul_one] at hfin
    have hgq := fin_b hfin hylow hq1 hg1 hg2
    obtain ⟨u3, s, k1, k2, k3, k4, k5, k6⟩ := addb_l v hv i g v.length 0 0 (vL (u'.set (i + v.length) (D : Int))) (u'.set (i + v.length) (D : Int)) (by omega) hyok (by rw [hylen]; exact hb) (by rw [hylen]; exact hi) (by omega) (by rw [List.take_zero, vL_nil]; simp)
    have hu3 : i + v.length < u3.length := by rw [k2, hylen]; exact hi
    obtain ⟨z, hz3, ez⟩ := limb_nat k1 _ hu3
    have rz : rd u3 ((i + v.length : Nat) : Int) = (z : Int) := by rw [rd_nat hu3, ez]
    have hset3 := vL_set u3 (i + v.length) hu3 (((z + s) % 4294967296 : Nat) : Int)
    rw [ez, Int.toNat_natCast, Int.toNat_natCast] at hset3
    have hmlt : (z + s) % 4294967296 < 4294967296 := Nat.mod_lt _ (by decide)
    have hfok : okL (u3.set (i + v.length) (((z + s) % 4294967296 : Nat) : Int)) := okL_set k1 _ _ (Int.natCast_nonneg _) (Int.ofNat_lt.2 hmlt)
    have hflen : (u3.set (i + v.length) (((z + s) % 4294967296 : Nat) : Int)).length = u.length := by rw [List.length_set, k2, hylen]
    have hflow : vL (u3.set (i + v.length) (((z + s) % 4294967296 : Nat) : Int)) < 4294967296 ^ (i + v.length + 1) := by
      refine vL_low hfok _ (by rw [hflen]; exact hid) ?_
      rw [List.drop_set_of_lt (by omega)]
      have := congrArg (fun l => l.drop 1) k3
      simp only [List.drop_drop] at this
      rw [this, hydrop]
      exact hz
    have ho : (z + s) / 4294967296 ≤ 1 := by omega
    have hmd := Nat.mod_add_div (z + s) 4294967296
    have hval : vL (u3.set (i + v.length) (((z + s) % 4294967296 : Nat) : Int)) + 4294967296 ^ (i + v.length + 1) * ((z + s) / 4294967296) = vL (u'.set (i + v.length) (D : Int)) + 4294967296 ^ i * vL v := by
      rw [← k5, ← hpow1]
      have h9 := congrArg (4294967296 ^ (i + v.length) * ·) hmd
      simp only [Nat.mul_add] at h9
      rw [← Nat.mul_assoc] at h9
      omega
    generalize hfv : vL (u3.set (i + v.length) (((z + s) % 4294967296 : Nat) : Int)) = fv at *
    generalize (z + s) / 4294967296 = o at *
    have hfv2 : fv + q * (4294967296 ^ i * vL v) = vL u := by
      rw [hgq, Nat.add_mul, Nat.one_mul] at hfin
      rcases (show o = 0 ∨ o = 1 by omega) with h | h
      · rw [h, Nat.mul_zero, Nat.add_zero] at hval
        omega
      · rw [h, Nat.mul_one] at hval
        omega
    refine ⟨q, u3.set (i + v.length) (((z + s) % 4294967296 : Nat) : Int), hqB, hfok, hflen, by rw [hassoc, hfv]; exact hfv2, ?_, (0 + v.length + 1) + v.length + 2 + m, ?_⟩
    · rw [hfv]
      rw [Nat.add_mul, Nat.one_mul] at hq2
      omega
    · show bigint_limbs_digit.f _ _ _ _ = _
      have hne : ¬ ((b2 : Nat) : Int) = 0 := by omega
      have w1 := Aside0.mk (addN_64 i v.length hil)
      have w2 : Aside0 (IntKind.u64.wrap ((g : Int) - 1) = ((q : Nat) : Int)) := ⟨(u64w (by omega) (by omega)).trans (by omega)⟩
      have b1 : ((i + v.length : Nat) : Int) < (u3.length : Int) := Int.ofNat_lt.2 hu3
      have h10 := k6 0
      rw [show ((0 : Nat) : Int) = 0 from rfl] at h10
      rw [hcall (0 + v.length + 1), hlast (0 + v.length + 1), if_neg hne, h10, bigint_limbs_digit.l2]
      rw [if_neg (Int.lt_irrefl _), w1.out, if_pos (Int.natCast_nonneg _), if_pos b1, w2.out, rz, ← Int.natCast_add, modN, modN, Nat.mod_eq_of_lt hqB, Int.toNat_natCast]

/-! ### quotient and remainder -/
theorem div_l (v : List Int) (n : Nat) (hv : okL v) (hk : 2 ≤ v.length) (hn : n < 32) (v1 : Nat) (hv1 : v1 < 4294967296) (hv1n : 2147483648 ≤ v1) (ev1 : rd v ((v.length - 1 : Nat) : Int) = (v1 : Int)) (L : Nat) (hL : L ≤ 17592186044416) (A : Nat) (d : Nat) :
    ∀ (u q : List Int), okL u → okL q → u.length = L → q.length + v.length = L → d ≤ q.length → vL u < 4294967296 ^ d * vL v → vL u + 4294967296 ^ d * vL (q.drop d) * vL v = A →
    To (fun k => bigint_limbs_divide.l0 k (n : Int) u v q ((d : Int) - 1)) (toL (A / vL v), toL (A % vL v / 2 ^ n)) := by
  induction d with
  | zero =>
    intro u q hu hq hul hql hd hlt hA
    rw [Nat.pow_zero, Nat.one_mul] at hlt
    rw [Nat.pow_zero, Nat.one_mul, List.drop_zero, Nat.mul_comm] at hA
    have e1 : A / vL v = vL q := by rw [← hA, Nat.add_comm, Nat.mul_add_div (by omega), Nat.div_eq_of_lt hlt]; simp
    have e2 : A % vL v = vL u := by rw [← hA, Nat.add_comm, Nat.mul_add_mod, Nat.mod_eq_of_lt hlt]
    rw [e1, e2]
    obtain ⟨k1, hk1⟩ := trim_to (l := q) (by omega) hq
    obtain ⟨k2, hk2⟩ := trim_to (l := u) (by omega) hu
    have hlu : (toL (vL u)).length ≤ 17592186044416 := Nat.le_trans (len_toL_le (vL_lt hu)) (by omega)
    obtain ⟨k3, hk3⟩ := unshift_to (okL_toL (vL u)) hlu n (by omega)
    rw [vL_toL] at hk3
    refine ⟨max k1 (max k2 k3) + 1, ?_⟩
    show bigint_limbs_divide.l0 _ _ _ _ _ _ = _
    rw [bigint_limbs_divide.l0]
    have a1 : bigint_limbs_trim.f (max k1 (max k2 k3)) q = some (toL (vL q)) := at_rounds (bigint_limbs_trim.mono _) (Nat.le_max_left _ _) hk1
    have a2 : bigint_limbs_trim.f (max k1 (max k2 k3)) u = some (toL (vL u)) := at_rounds (bigint_limbs_trim.mono _) (Nat.le_trans (Nat.le_max_left _ _) (Nat.le_max_right _ _)) hk2
    have a3 : bigint_limbs_unshift.f (max k1 (max k2 k3)) (toL (vL u)) (n : Int) = some (toL (vL u / 2 ^ n)) := at_rounds (bigint_limbs_unshift.mono _ _) (Nat.le_trans (Nat.le_max_right _ _) (Nat.le_max_right _ _)) hk3
    rw [if_neg (by omega), a1, Option.bind_some, a2, Option.bind_some, a3, Option.bind_some]
  | succ d ih =>
    intro u q hu hq hul hql hd hlt hA
    have hdq : d < q.length := by omega
    have hiu : d + v.length < u.length := by omega
    obtain ⟨g, u', g1, g2, g3, g4, g5, g6⟩ := digit_to u v d hu hv hk hiu (by omega) v1 hv1 hv1n ev1 hlt
    obtain ⟨k2, hk2⟩ := ih u' (q.set d (g : Int)) g2 (okL_set hq _ _ (Int.natCast_nonneg _) (Int.ofNat_lt.2 g1)) (by omega) (by rw [List.length_set]; exact hql) (by rw [List.length_set]; omega) g5 (by
      rw [← hA, ← g4, List.drop_eq_getElem_cons (l := q.set d _) (by rw [List.length_set]; exact hdq), List.getElem_set_self, List.drop_set_of_lt (by omega), vL_cons, Int.toNat_natCast, Nat.pow_succ]
      grind)
    obtain ⟨k1, hk1⟩ := g6
    refine ⟨max k1 k2 + 1, ?_⟩
    show bigint_limbs_divide.l0 _ _ _ _ _ _ = _
    rw [bigint_limbs_divide.l0]
    have e1 : ((d + 1 : Nat) : Int) - 1 = (d : Int) := by omega
    have e2 := Aside0.mk (show wrap64 ((d : Int) - 1) = (d : Int) - 1 from w64 (by omega) (by omega))
    have a1 : bigint_limbs_digit.f (max k1 k2) u v (d : Int) = some ((g : Int), u') := at_rounds (bigint_limbs_digit.mono _ _ _) (Nat.le_max_left _ _) hk1
    have a2 : bigint_limbs_divide.l0 (max k1 k2) (n : Int) u' v (q.set d (g : Int)) ((d : Int) - 1) = _ := at_rounds (fun k => bigint_limbs_divide.mono_l k _ _ _ _ _) (Nat.le_max_right _ _) hk2
    have b1 : (d : Int) < (q.length : Int) := Int.ofNat_lt.2 hdq
    rw [e1, if_pos (Int.natCast_nonneg _), a1, Option.bind_some, if_pos (Int.natCast_nonneg _), if_pos b1, Int.toNat_natCast, e2.out]
    exact a2
theorem divide_to (a b : Nat) (hb : 0 < b) (hs : (toL a).length ≤ 8796093022208) : To (fun k => bigint_limbs_divide.f k (toL a) (toL b)) (toL (a / b), toL (a % b)) := by
  unfold bigint_limbs_divide.f
  refine To.bind (bigint_limbs_compare.mono _ _) (fun x k => ?_) (compare_to a b (by omega)) ?_
  · have := bigint_limbs_divide.mono (toL a) (toL b) k
    repeat' first
      | (with_reducible exact bigint_limbs_short.mono _ _ _)
      | (with_reducible exact bigint_limbs_trim.mono _ _)
      | (with_reducible exact bigint_limbs_shift.mono _ _ _)
      | (with_reducible exact bigint_limbs_divide.mono_l _ _ _ _ _ _)
      | (with_reducible exact LeO.refl _)
      | (with_reducible exact LeO.none _)
      | (with_reducible refine LeO.ite ?_ ?_)
      | (with_reducible refine LeO.bind ?_ (fun _ => ?_))
  by_cases hab : a < b
  · have hc : cmpN a b = -1 := by unfold cmpN; rw [if_pos hab]
    refine ⟨0, ?_⟩
    show (if _ then _ else _) = _
    rw [hc, if_pos (by decide), Nat.div_eq_of_lt hab, Nat.mod_eq_of_lt hab, toL_zero]
  have hc : ¬ cmpN a b < 0 := by unfold cmpN; rw [if_neg hab]; split <;> omega
  have hblen : (toL b).length ≤ (toL a).length := len_toL_le (Nat.lt_of_le_of_lt (by omega) (lt_of_len_toL (Nat.le_refl _)))
  have hbne : toL b ≠ [] := fun e => by have := (toL_nil_iff b).1 e; omega
  have hbpos : 0 < (toL b).length := List.length_pos_iff.2 hbne
  have hlast : (toL b).length - 1 < (toL b).length := by omega
  obtain ⟨t, ht, et⟩ := limb_nat (okL_toL b) _ hlast
  have rt : rd (toL b) (((toL b).length - 1 : Nat) : Int) = (t : Int) := by rw [rd_nat hlast, et]
  have ht0 : 0 < t := by
    have := trim_toL b hbne
    rw [List.getLast_eq_getElem, et] at this
    omega
  by_cases h1 : (toL b).length = 1
  · -- one limb
    have hbt : b = t := by
      have h2 := vL_take_add (toL b) ((toL b).length - 1) (by omega)
      rw [List.drop_eq_getElem_cons hlast, et, List.drop_of_length_le (by omega), vL_cons, vL_nil, vL_toL] at h2
      rw [h1] at h2
      simp [vL_nil] at h2
      exact h2
    have r0 : rd (toL b) 0 = (t : Int) := by
      have := rt
      rw [h1] at this
      exact this
    obtain ⟨k1, hk1⟩ := short_to (okL_toL a) (by omega) t ht0 ht
    obtain ⟨k2, hk2⟩ := trim_to (l := [((a % t : Nat) : Int)]) (by simp) (by rw [okL_cons]; exact ⟨⟨Int.natCast_nonneg _, by have := Nat.mod_lt a ht0; omega⟩, okL_nil⟩)
    rw [vL_cons, vL_nil, Int.toNat_natCast, Nat.mul_zero, Nat.add_zero] at hk2
    rw [vL_toL] at hk1
    have a1 : bigint_limbs_short.f (max k1 k2) (toL a) (t : Int) = _ := at_rounds (bigint_limbs_short.mono _ _) (Nat.le_max_left _ _) hk1
    have a2 : bigint_limbs_trim.f (max k1 k2) [((a % t : Nat) : Int)] = _ := at_rounds (bigint_limbs_trim.mono _) (Nat.le_max_right _ _) hk2
    refine ⟨max k1 k2, ?_⟩
    show (if _ then _ else _) = _
    rw [if_neg hc, if_pos (by omega), if_pos (by omega), r0, a1, Option.bind_some, a2, Option.bind_some, hbt]
  · -- long division
    have hk : 2 ≤ (toL b).length := by omega
    have hbl : blen t ≤ 32 := blen_le (m := 32) ht
    have hbl0 : 0 < blen t := by
      rcases Nat.eq_zero_or_pos (blen t) with h | h
      · have := (blen_is t).1
        rw [h] at this
        omega
      · exact h
    have hn : 32 - blen t < 32 := by omega
    have h2n : 2 ^ (32 - blen t) * 2 ^ blen t = 4294967296 := by rw [← Nat.pow_add, show 32 - blen t + blen t = 32 by omega]
    have hhalf : 2 ^ (32 - blen t) * 2 ^ (blen t - 1) = 2147483648 := by rw [← Nat.pow_add, show 32 - blen t + (blen t - 1) = 31 by omega]
    have htn1 := Nat.mul_le_mul_left (2 ^ (32 - blen t)) ((blen_is t).2 hbl0)
    have htn2 := Nat.mul_lt_mul_of_pos_left (blen_is t).1 (Nat.two_pow_pos (32 - blen t))
    rw [hhalf] at htn1
    rw [h2n] at htn2
    obtain ⟨u, u1, u2, u3, k1, hk1⟩ := shift_to (okL_toL a) (by omega) (32 - blen t) hn
    obtain ⟨w, w1, w2, w3, k2, hk2⟩ := shift_to (okL_toL b) (by omega) (32 - blen t) hn
    rw [vL_toL] at u3 w3
    obtain ⟨k3, hk3⟩ := trim_to (l := w) (by omega) w1
    rw [w3] at hk3
    have hn31 : 2 ^ (32 - blen t) ≤ 2 ^ 31 := Nat.pow_le_pow_right (by decide) (by omega)
    have hn0 := Nat.two_pow_pos (32 - blen t)
    -- the divisor, shifted: as many limbs as before, the first one great
    have hbv := vL_take_add (toL b) ((toL b).length - 1) (by omega)
    rw [List.drop_eq_getElem_cons hlast, et, List.drop_of_length_le (by omega), vL_cons, vL_nil, vL_toL, Int.toNat_natCast, Nat.mul_zero, Nat.add_zero] at hbv
    have hblow := vL_lt (okL_take (okL_toL b) ((toL b).length - 1))
    rw [List.length_take, Nat.min_eq_left (by omega)] at hblow
    have hlo : 4294967296 ^ ((toL b).length - 1) * 2147483648 ≤ 2 ^ (32 - blen t) * b := by
      have e : 2 ^ (32 - blen t) * (4294967296 ^ ((toL b).length - 1) * t) ≤ 2 ^ (32 - blen t) * b := Nat.mul_le_mul_left _ (by omega)
      refine Nat.le_trans ?_ e
      rw [Nat.mul_left_comm]
      exact Nat.mul_le_mul_left _ htn1
    have hhi : 2 ^ (32 - blen t) * b < 4294967296 ^ (toL b).length := by
      have e1 : b < 4294967296 ^ ((toL b).length - 1) * (t + 1) := by
        rw [Nat.mul_add, Nat.mul_one]; omega
      have e2 : 2 ^ (32 - blen t) * (t + 1) ≤ 4294967296 := by
        have : t + 1 ≤ 2 ^ blen t := (blen_is t).1
        have := Nat.mul_le_mul_left (2 ^ (32 - blen t)) this
        rwa [h2n] at this
      have e3 := Nat.mul_lt_mul_of_pos_left e1 hn0
      rw [Nat.mul_left_comm] at e3
      have e4 := Nat.mul_le_mul_left (4294967296 ^ ((toL b).length - 1)) e2
      have e5 : 4294967296 ^ (toL b).length = 4294967296 ^ ((toL b).length - 1) * 4294967296 := by rw [← Nat.pow_succ]; exact congrArg (fun z => 4294967296 ^ z) (by omega)
      rw [e5]
      exact Nat.lt_of_lt_of_le e3 e4
    have hvlen : (toL (2 ^ (32 - blen t) * b)).length = (toL b).length := by
      have h2 := len_toL_le hhi
      rcases Nat.lt_or_ge (toL (2 ^ (32 - blen t) * b)).length (toL b).length with h3 | h3
      · exfalso
        have h4 := lt_of_len_toL (n := 2 ^ (32 - blen t) * b) (m := (toL b).length - 1) (by omega)
        have h5 : 4294967296 ^ ((toL b).length - 1) * 1 ≤ 4294967296 ^ ((toL b).length - 1) * 2147483648 := Nat.mul_le_mul_left _ (by decide)
        rw [Nat.mul_one] at h5
        exact absurd (Nat.lt_of_lt_of_le h4 (Nat.le_trans h5 hlo)) (Nat.lt_irrefl _)
      · omega
    have hvlast : (toL (2 ^ (32 - blen t) * b)).length - 1 < (toL (2 ^ (32 - blen t) * b)).length := by omega
    obtain ⟨v1, hv1, ev1⟩ := limb_nat (okL_toL (2 ^ (32 - blen t) * b)) _ hvlast
    have rv1 : rd (toL (2 ^ (32 - blen t) * b)) (((toL (2 ^ (32 - blen t) * b)).length - 1 : Nat) : Int) = (v1 : Int) := by rw [rd_nat hvlast, ev1]
    have hv1n : 2147483648 ≤ v1 := by
      have h2 := vL_take_add (toL (2 ^ (32 - blen t) * b)) ((toL (2 ^ (32 - blen t) * b)).length - 1) (by omega)
      rw [List.drop_eq_getElem_cons hvlast, ev1, List.drop_of_length_le (by omega), vL_cons, vL_nil, vL_toL, Int.toNat_natCast, Nat.mul_zero, Nat.add_zero] at h2
      have h3 := vL_lt (okL_take (okL_toL (2 ^ (32 - blen t) * b)) ((toL (2 ^ (32 - blen t) * b)).length - 1))
      rw [List.length_take, Nat.min_eq_left (by omega)] at h3
      rw [← hvlen] at hlo
      rcases Nat.lt_or_ge v1 2147483648 with h4 | h4
      · exfalso
        have h5 := Nat.mul_le_mul_left (4294967296 ^ ((toL (2 ^ (32 - blen t) * b)).length - 1)) (show v1 + 1 ≤ 2147483648 by omega)
        rw [Nat.mul_add, Nat.mul_one] at h5
        omega
      · exact h4
    have hqlen : u.length - (toL (2 ^ (32 - blen t) * b)).length = (toL a).length + 1 - (toL b).length := by rw [u2, hvlen]
    have hstart : vL u < 4294967296 ^ ((toL a).length + 1 - (toL b).length) * vL (toL (2 ^ (32 - blen t) * b)) := by
      rw [u3, vL_toL]
      have e1 : a < 4294967296 ^ (toL a).length := lt_of_len_toL (Nat.le_refl _)
      have e2 := Nat.mul_le_mul_left (4294967296 ^ ((toL a).length + 1 - (toL b).length)) hlo
      rw [← Nat.mul_assoc, ← Nat.pow_add, show (toL a).length + 1 - (toL b).length + ((toL b).length - 1) = (toL a).length by omega] at e2
      have e3 : 2 ^ (32 - blen t) * a < 2 ^ (32 - blen t) * 4294967296 ^ (toL a).length := Nat.mul_lt_mul_of_pos_left e1 hn0
      have e4 : 2 ^ (32 - blen t) * 4294967296 ^ (toL a).length ≤ 4294967296 ^ (toL a).length * 2147483648 := by
        rw [Nat.mul_comm]; exact Nat.mul_le_mul_left _ hn31
      exact Nat.lt_of_lt_of_le e3 (Nat.le_trans e4 e2)
    obtain ⟨k4, hk4⟩ := div_l (toL (2 ^ (32 - blen t) * b)) (32 - blen t) (okL_toL _) (by omega) hn v1 hv1 hv1n rv1 ((toL a).length + 1) (by omega) (2 ^ (32 - blen t) * a) ((toL a).length + 1 - (toL b).length) u (List.replicate ((toL a).length + 1 - (toL b).length) 0) u1 (okL_replicate _) u2 (by rw [List.length_replicate, hvlen]; omega) (by rw [List.length_replicate]; exact Nat.le_refl _) hstart (by
      rw [List.drop_of_length_le (by rw [List.length_replicate]; exact Nat.le_refl _), vL_nil, Nat.mul_zero, Nat.zero_mul, u3]; rfl)
    rw [vL_toL, Nat.mul_div_mul_left _ _ hn0, Nat.mul_mod_mul_left, Nat.mul_div_cancel_left _ hn0] at hk4
    refine ⟨max (max k1 k2) (max k3 k4), ?_⟩
    show (if _ then _ else _) = _
    have a1 : bigint_limbs_shift.f (max (max k1 k2) (max k3 k4)) (toL a) ((32 - blen t : Nat) : Int) = some u := at_rounds (bigint_limbs_shift.mono _ _) (Nat.le_trans (Nat.le_max_left _ _) (Nat.le_max_left _ _)) hk1
    have a2 : bigint_limbs_shift.f (max (max k1 k2) (max k3 k4)) (toL b) ((32 - blen t : Nat) : Int) = some w := at_rounds (bigint_limbs_shift.mono _ _) (Nat.le_trans (Nat.le_max_right _ _) (Nat.le_max_left _ _)) hk2
    have a3 : bigint_limbs_trim.f (max (max k1 k2) (max k3 k4)) w = _ := at_rounds (bigint_limbs_trim.mono _) (Nat.le_trans (Nat.le_max_left _ _) (Nat.le_max_right _ _)) hk3
    have a4 := at_rounds (fun k => bigint_limbs_divide.mono_l k _ _ _ _ _) (Nat.le_trans (Nat.le_max_right _ _) (Nat.le_max_right _ _)) hk4 (k' := max (max k1 k2) (max k3 k4))
    have q1 : (((toL b).length : Int) = 1) = False := by rw [eq_iff_iff, iff_false]; omega
    have q2 : (((toL b).length - 1 : Nat) : Int) < ((toL b).length : Int) := by omega
    have q3 : (toL a).length + 1 - (toL b).length ≤ 70368744177664 := by omega
    have q4 := Aside0.mk (sub1_64 (toL b).length (by omega) (by omega))
    have q5 := Aside0.mk (show wrap64 ((u.length : Int) - ((toL (2 ^ (32 - blen t) * b)).length : Int)) = (((toL a).length + 1 - (toL b).length : Nat) : Int) from (w64 (by omega) (by omega)).trans (by omega))
    have q6 := Aside0.mk (show wrap64 ((((toL a).length + 1 - (toL b).length : Nat) : Int) - 1) = (((toL a).length + 1 - (toL b).length : Nat) : Int) - 1 from w64 (by omega) (by omega))
    have q7 := Aside0.mk (leading_to t ht)
    simp only [q1, if_false]
    rw [if_neg hc, q4.out, if_pos (Int.natCast_nonneg _), if_pos q2, rt, q7.out, Option.bind_some, a1, Option.bind_some, a2, Option.bind_some, a3, Option.bind_some, q5.out, if_pos (Int.natCast_nonneg _), Int.toNat_natCast, if_pos q3, Option.bind_some, List.length_replicate, q6.out]
    exact a4
end Go.Proofs.Ytkmblomkocfldaa.F

/- The plain laws of Of, Neg, Add, Sub, Mul, Compare, Bits, Check: they compute with whole numbers. -/
set_option linter.unusedVariables false
namespace Go.Proofs.Ytkmblomkocfldaa.Sp
def val (n : Bool) (s : ByteArray) : Int := if n = true then -(vS s : Int) else (vS s : Int)
def enc (z : Int) : Bool × ByteArray := (decide (z < 0), magOf z.natAbs)
def cmpZ (a b : Int) : Int := if a < b then -1 else if b < a then 1 else 0
theorem enc_pack (neg : Bool) (n : Nat) : (neg && decide (n ≠ 0), magOf n) = enc (if neg = true then -(n : Int) else (n : Int)) := by
  cases neg
  · simp [enc]
  · simp only [Bool.true_and, if_true, enc, Int.natAbs_neg, Int.natAbs_natCast, Prod.mk.injEq, and_true]
    rw [decide_eq_decide]
    omega
theorem val_enc (z : Int) : val (enc z).1 (enc z).2 = z := by
  unfold val enc
  simp only [vS_magOf, decide_eq_true_eq]
  split <;> omega
theorem natAbs_val (n : Bool) (s : ByteArray) : (val n s).natAbs = vS s := by
  unfold val
  split <;> omega
theorem enc_inj {a b : Int} (h : enc a = enc b) : a = b := by rw [← val_enc a, ← val_enc b, h]
theorem len_toL_vS (s : ByteArray) : (toL (vS s)).length ≤ s.size := by
  apply len_toL_le
  exact Nat.lt_of_lt_of_le (vS_lt s) (Nat.pow_le_pow_left (by decide) _)
end Go.Proofs.Ytkmblomkocfldaa.Sp
namespace Go.Proofs.Ytkmblomkocfldaa.F
open Go.RowKit Go.Proofs.Ytkmblomkocfldaa.Sp Go.Proofs.YtkmblomkocfldaaW.PrintWords Go.Proofs.YtkmblomkocfldaaW.PrintMore

theorem of_to (n : Int) (h0 : -9223372036854775808 ≤ n) (h1 : n ≤ 9223372036854775807) : To (fun k => bigint_Of.f k n) (enc n) := by
  have key : ∀ (neg : Bool) (u : Nat), u < 18446744073709551616 → To (fun k => (bigint_pack.f k neg [((u % 4294967296 : Nat) : Int), ((u / 4294967296 % 4294967296 : Nat) : Int)]).bind fun bt162 => (some (bt162.1, bt162.2))) (enc (if neg = true then -(u : Int) else (u : Int))) := by
    intro neg u hu
    refine To.bind (bigint_pack.mono _ _) (fun _ _ => LeO.refl _) (pack_to neg (by simp) ?_) ⟨0, ?_⟩
    · rw [okL_cons, okL_cons]; exact ⟨by omega, by omega, okL_nil⟩
    · have e : vL [((u % 4294967296 : Nat) : Int), ((u / 4294967296 % 4294967296 : Nat) : Int)] = u := by
        simp only [vL_cons, vL_nil, Int.toNat_natCast]; omega
      rw [e, enc_pack]
  by_cases hn : n < 0
  · obtain ⟨k, hk⟩ := key true n.natAbs (by omega)
    refine ⟨k, ?_⟩
    show bigint_Of.f k n = _
    unfold bigint_Of.f
    have e1 : IntKind.u64.wrap (-(IntKind.u64.wrap n)) = ((n.natAbs : Nat) : Int) := by rw [IntKind.wrap_u64, IntKind.wrap_u64]; omega
    rw [if_pos hn, e1]
    have e2 : (if (true : Bool) = true then -((n.natAbs : Nat) : Int) else ((n.natAbs : Nat) : Int)) = n := by rw [if_pos rfl]; omega
    rw [e2] at hk
    exact hk
  · obtain ⟨k, hk⟩ := key false n.natAbs (by omega)
    refine ⟨k, ?_⟩
    show bigint_Of.f k n = _
    unfold bigint_Of.f
    have e1 : IntKind.u64.wrap n = ((n.natAbs : Nat) : Int) := by rw [IntKind.wrap_u64]; omega
    rw [if_neg hn, e1]
    have e2 : (if (false : Bool) = true then -((n.natAbs : Nat) : Int) else ((n.natAbs : Nat) : Int)) = n := by rw [if_neg (by simp)]; omega
    rw [e2] at hk
    exact hk
theorem neg_val (n : Bool) (s : ByteArray) : (if (!n) = true then -((vS s : Nat) : Int) else ((vS s : Nat) : Int)) = -val n s := by
  unfold val; cases n <;> simp
theorem neg_to (n : Bool) (s : ByteArray) (h : s.size ≤ 1099511627776) : To (fun k => bigint_Neg.f k n s) (enc (-val n s)) := by
  unfold bigint_Neg.f
  refine To.bind (bigint_load.mono _) (fun x k => ?_) (load_to s (by omega)) ?_
  · exact LeO.bind (bigint_pack.mono _ _ k) (fun _ => LeO.refl _)
  have hl := len_toL_vS s
  refine To.bind (bigint_pack.mono _ _) (fun _ _ => LeO.refl _) (pack_to (!n) (by omega) (okL_toL _)) ⟨0, ?_⟩
  rw [vL_toL, enc_pack, neg_val]
theorem mul_val (n m : Bool) (x y : Nat) : (if (n != m) = true then -((x * y : Nat) : Int) else ((x * y : Nat) : Int)) = (if n = true then -(x : Int) else (x : Int)) * (if m = true then -(y : Int) else (y : Int)) := by
  cases n <;> cases m <;> simp [Int.natCast_mul, Int.neg_mul, Int.mul_neg]
theorem mul_to (n : Bool) (s : ByteArray) (m : Bool) (t : ByteArray) (h : s.size ≤ 1099511627776) (h2 : t.size ≤ 1099511627776) : To (fun k => bigint_Mul.f k n s m t) (enc (val n s * val m t)) := by
  unfold bigint_Mul.f
  have hl := len_toL_vS s
  have hm := len_toL_vS t
  refine To.bind (bigint_load.mono _) (fun x k => ?_) (load_to s (by omega)) ?_
  · exact LeO.bind (bigint_load.mono _ k) (fun _ => LeO.bind (bigint_limbs_times.mono _ _ k) (fun _ => LeO.bind (bigint_pack.mono _ _ k) (fun _ => LeO.refl _)))
  refine To.bind (bigint_load.mono _) (fun x k => ?_) (load_to t (by omega)) ?_
  · exact LeO.bind (bigint_limbs_times.mono _ _ k) (fun _ => LeO.bind (bigint_pack.mono _ _ k) (fun _ => LeO.refl _))
  refine To.bind (bigint_limbs_times.mono _ _) (fun x k => ?_) (times_to (okL_toL _) (okL_toL _) (by omega)) ?_
  · exact LeO.bind (bigint_pack.mono _ _ k) (fun _ => LeO.refl _)
  rw [vL_toL, vL_toL]
  have hlen : (toL (vS s * vS t)).length ≤ s.size + t.size := by
    apply len_toL_le
    refine Nat.lt_of_lt_of_le (Nat.mul_lt_mul'' (vS_lt s) (vS_lt t)) ?_
    rw [← Nat.pow_add]
    exact Nat.pow_le_pow_left (by decide) _
  refine To.bind (bigint_pack.mono _ _) (fun _ _ => LeO.refl _) (pack_to (n != m) (by omega) (okL_toL _)) ⟨0, ?_⟩
  rw [vL_toL, enc_pack, mul_val]
  rfl
theorem bits_to (n : Bool) (s : ByteArray) (h : s.size ≤ 1099511627776) : To (fun k => bigint_Bits.f k n s) ((blen (vS s) : Nat) : Int) := by
  unfold bigint_Bits.f
  have hl := len_toL_vS s
  refine To.bind (bigint_load.mono _) (fun x k => LeO.refl _) (load_to s (by omega)) ⟨0, ?_⟩
  rw [size_to _ (by omega)]; rfl
theorem little_l (n : Bool) (s : ByteArray) (hs : s.size ≤ 7) (d : Nat) : ∀ (k i : Nat), i + d = s.size → d < k → bigint_little.l0 k ((vB (s.data.toList.take i) : Nat) : Int) (s.size : Int) (i : Int) n s = some (val n s, true) := by
  induction d with
  | zero =>
    intro k i hi hk
    obtain ⟨k, rfl⟩ : ∃ m, k = m + 1 := ⟨k - 1, by omega⟩
    have ht : s.data.toList.take i = s.data.toList := List.take_of_length_le (by rw [len_data]; omega)
    have hv : vS s < 256 ^ 7 := Nat.lt_of_lt_of_le (vS_lt s) (Nat.pow_le_pow_right (by decide) hs)
    rw [bigint_little.l0, if_neg (by omega), ht, show vB s.data.toList = vS s from rfl]
    have e : Aside0 (wrap64 (-((vS s : Nat) : Int)) = -((vS s : Nat) : Int)) := ⟨w64 (by omega) (by omega)⟩
    unfold val
    rw [e.out]
    cases n <;> simp
  | succ d ih =>
    intro k i hi hk
    obtain ⟨k, rfl⟩ : ∃ m, k = m + 1 := ⟨k - 1, by omega⟩
    have hil : i < s.data.toList.length := by rw [len_data]; omega
    have hb := bt_nat (s := s) hil
    have hc := (s.data.toList[i]).toNat_lt
    have hsn : vB (s.data.toList.take (i + 1)) = vB (s.data.toList.take i) * 256 + (s.data.toList[i]).toNat := by rw [List.take_succ_eq_append_getElem hil, vB_snoc]
    have hlt : vB (s.data.toList.take i) < 256 ^ 6 := by
      refine Nat.lt_of_lt_of_le (vB_lt _) (Nat.pow_le_pow_right (by decide) ?_)
      rw [List.length_take]; omega
    generalize s.data.toList[i] = c at *
    generalize hx : vB (s.data.toList.take i) = x at *
    have hi64 : i ≤ 140737488355328 := by omega
    have e1 : Aside0 (wrap64 ((x : Int) * 256) = ((x * 256 : Nat) : Int)) := ⟨(w64 (by omega) (by omega)).trans (by omega)⟩
    have e2 : Aside0 (wrap64 ((c.toNat : Nat) : Int) = ((c.toNat : Nat) : Int)) := ⟨w64 (by omega) (by omega)⟩
    have e3 : Go.bits .or .i64 ((x * 256 : Nat) : Int) ((c.toNat : Nat) : Int) = ((x * 256 + c.toNat : Nat) : Int) := by
      have := bits_join .i64 63 (by decide) (fun n h1 h2 => by rw [IntKind.wrap_i64]; omega) 8 ((x * 256 : Nat) : Int) ((c.toNat : Nat) : Int) (by omega) (by omega) (by omega) (by omega) (by omega) (by omega)
      rw [this]; omega
    have := ih k (i + 1) (by omega) (by omega)
    rw [hsn] at this
    rw [bigint_little.l0, if_pos (by omega), if_pos (by omega), if_pos (by omega), hb, e1.out, e2.out, e3, succ64 i hi64]
    exact this
theorem little_to (n : Bool) (s : ByteArray) : To (fun k => bigint_little.f k n s) (if s.size ≤ 7 then (val n s, true) else (0, false)) := by
  by_cases h : s.size ≤ 7
  · refine ⟨s.size + 1, ?_⟩
    show bigint_little.f _ _ _ = _
    unfold bigint_little.f
    rw [if_neg (by omega), if_pos h]
    exact little_l n s h s.size (s.size + 1) 0 (by omega) (by omega)
  · refine ⟨0, ?_⟩
    show bigint_little.f _ _ _ = _
    unfold bigint_little.f
    rw [if_pos (by omega), if_neg h]
theorem add_same (n : Bool) (x y : Nat) : (if n = true then -((x + y : Nat) : Int) else ((x + y : Nat) : Int)) = (if n = true then -(x : Int) else (x : Int)) + (if n = true then -(y : Int) else (y : Int)) := by
  cases n
  · rw [if_neg (by simp), if_neg (by simp), if_neg (by simp)]; omega
  · rw [if_pos rfl, if_pos rfl, if_pos rfl]; omega
theorem add_less (n m : Bool) (h : ¬ n = m) (x y : Nat) (hxy : x ≤ y) : (if m = true then -((y - x : Nat) : Int) else ((y - x : Nat) : Int)) = (if n = true then -(x : Int) else (x : Int)) + (if m = true then -(y : Int) else (y : Int)) := by
  cases n <;> cases m
  · exact absurd rfl h
  · rw [if_pos rfl, if_neg (by simp), if_pos rfl]; omega
  · rw [if_neg (by simp), if_pos rfl, if_neg (by simp)]; omega
  · exact absurd rfl h
theorem add_more (n m : Bool) (h : ¬ n = m) (x y : Nat) (hxy : y ≤ x) : (if n = true then -((x - y : Nat) : Int) else ((x - y : Nat) : Int)) = (if n = true then -(x : Int) else (x : Int)) + (if m = true then -(y : Int) else (y : Int)) := by
  rw [Int.add_comm]; exact add_less m n (fun e => h e.symm) y x hxy
theorem add_j (n : Bool) (s : ByteArray) (m : Bool) (t : ByteArray) (h : s.size ≤ 1099511627776) (h2 : t.size ≤ 1099511627776) : To (fun k => bigint_Add.j0 k n s m t) (enc (val n s + val m t)) := by
  have hl := len_toL_vS s
  have hm := len_toL_vS t
  have hp := okL_toL
  suffices hh : To (fun k => (bigint_load.f k s).bind fun t231 => ((bigint_load.f k t).bind fun t234 => (if (n == m) = true then ((bigint_limbs_plus.f k t231 t234).bind fun t237 => ((bigint_pack.f k n t237).bind fun bt240 => (some (bt240.1, bt240.2)))) else ((bigint_limbs_compare.f k t231 t234).bind fun t242 => (if t242 < 0 then ((bigint_limbs_minus.f k t234 t231).bind fun t243 => ((bigint_pack.f k m t243).bind fun bt246 => (some (bt246.1, bt246.2)))) else ((bigint_limbs_minus.f k t231 t234).bind fun t248 => ((bigint_pack.f k n t248).bind fun bt251 => (some (bt251.1, bt251.2))))))))) (enc (val n s + val m t)) by
    obtain ⟨k, hk⟩ := hh
    exact ⟨k + 1, hk⟩
  have mp : ∀ (b : Bool) (l : List Int) (k : Nat), LeO ((bigint_pack.f k b l).bind fun bt => (some (bt.1, bt.2))) ((bigint_pack.f (k + 1) b l).bind fun bt => (some (bt.1, bt.2))) := fun b l k => LeO.bind (bigint_pack.mono _ _ k) (fun _ => LeO.refl _)
  have mall : ∀ (x y : List Int) (k : Nat), LeO (if (n == m) = true then ((bigint_limbs_plus.f k x y).bind fun t237 => ((bigint_pack.f k n t237).bind fun bt240 => (some (bt240.1, bt240.2)))) else ((bigint_limbs_compare.f k x y).bind fun t242 => (if t242 < 0 then ((bigint_limbs_minus.f k y x).bind fun t243 => ((bigint_pack.f k m t243).bind fun bt246 => (some (bt246.1, bt246.2)))) else ((bigint_limbs_minus.f k x y).bind fun t248 => ((bigint_pack.f k n t248).bind fun bt251 => (some (bt251.1, bt251.2))))))) (if (n == m) = true then ((bigint_limbs_plus.f (k + 1) x y).bind fun t237 => ((bigint_pack.f (k + 1) n t237).bind fun bt240 => (some (bt240.1, bt240.2)))) else ((bigint_limbs_compare.f (k + 1) x y).bind fun t242 => (if t242 < 0 then ((bigint_limbs_minus.f (k + 1) y x).bind fun t243 => ((bigint_pack.f (k + 1) m t243).bind fun bt246 => (some (bt246.1, bt246.2)))) else ((bigint_limbs_minus.f (k + 1) x y).bind fun t248 => ((bigint_pack.f (k + 1) n t248).bind fun bt251 => (some (bt251.1, bt251.2))))))) := fun x y k =>
    LeO.ite (LeO.bind (bigint_limbs_plus.mono _ _ k) (fun _ => mp _ _ k)) (LeO.bind (bigint_limbs_compare.mono _ _ k) (fun _ => LeO.ite (LeO.bind (bigint_limbs_minus.mono _ _ k) (fun _ => mp _ _ k)) (LeO.bind (bigint_limbs_minus.mono _ _ k) (fun _ => mp _ _ k))))
  refine To.bind (bigint_load.mono _) (fun x k => LeO.bind (bigint_load.mono _ k) (fun y => mall x y k)) (load_to s (by omega)) ?_
  refine To.bind (bigint_load.mono _) (fun y k => mall _ y k) (load_to t (by omega)) ?_
  by_cases hnm : n = m
  · subst hnm
    have hbig : (toL (vS s + vS t)).length ≤ s.size + t.size + 1 := by
      apply len_toL_le
      have e1 := Nat.lt_of_lt_of_le (vS_lt s) (Nat.pow_le_pow_right (by decide) (show s.size ≤ s.size + t.size by omega))
      have e2 := Nat.lt_of_lt_of_le (vS_lt t) (Nat.pow_le_pow_right (by decide) (show t.size ≤ s.size + t.size by omega))
      have e3 : 256 ^ (s.size + t.size) ≤ 4294967296 ^ (s.size + t.size) := Nat.pow_le_pow_left (by decide) _
      rw [Nat.pow_succ]
      omega
    have h3 : To (fun k => (bigint_limbs_plus.f k (toL (vS s)) (toL (vS t))).bind fun t237 => ((bigint_pack.f k n t237).bind fun bt240 => (some (bt240.1, bt240.2)))) (enc (val n s + val n t)) := by
      refine To.bind (bigint_limbs_plus.mono _ _) (fun x k => ?_) (plus_to (hp (vS s)) (hp (vS t)) (by omega) (by omega)) ?_
      · exact mp _ _ k
      rw [vL_toL, vL_toL]
      refine To.bind (bigint_pack.mono _ _) (fun _ _ => LeO.refl _) (pack_to n (by omega) (okL_toL _)) ⟨0, ?_⟩
      rw [vL_toL, enc_pack, add_same]
      rfl
    obtain ⟨k, hk⟩ := h3
    refine ⟨k, ?_⟩
    show (if _ then _ else _) = _
    rw [if_pos (by simp)]
    exact hk
  · have h3 : To (fun k => (bigint_limbs_compare.f k (toL (vS s)) (toL (vS t))).bind fun t242 => (if t242 < 0 then ((bigint_limbs_minus.f k (toL (vS t)) (toL (vS s))).bind fun t243 => ((bigint_pack.f k m t243).bind fun bt246 => (some (bt246.1, bt246.2)))) else ((bigint_limbs_minus.f k (toL (vS s)) (toL (vS t))).bind fun t248 => ((bigint_pack.f k n t248).bind fun bt251 => (some (bt251.1, bt251.2)))))) (enc (val n s + val m t)) := by
      refine To.bind (bigint_limbs_compare.mono _ _) (fun x k => ?_) (compare_to (vS s) (vS t) (by omega)) ?_
      · exact LeO.ite (LeO.bind (bigint_limbs_minus.mono _ _ k) (fun _ => mp _ _ k)) (LeO.bind (bigint_limbs_minus.mono _ _ k) (fun _ => mp _ _ k))
      by_cases hlt : vS s < vS t
      · have hc : cmpN (vS s) (vS t) < 0 := by unfold cmpN; rw [if_pos hlt]; decide
        have h4 : To (fun k => (bigint_limbs_minus.f k (toL (vS t)) (toL (vS s))).bind fun t243 => ((bigint_pack.f k m t243).bind fun bt246 => (some (bt246.1, bt246.2)))) (enc (val n s + val m t)) := by
          refine To.bind (bigint_limbs_minus.mono _ _) (fun x k => ?_) (minus_to (vS t) (vS s) (by omega) (by omega)) ?_
          · exact mp _ _ k
          have hlen : (toL (vS t - vS s)).length ≤ t.size := Nat.le_trans (len_toL_le (Nat.lt_of_le_of_lt (Nat.sub_le _ _) (lt_of_len_toL (Nat.le_refl (toL (vS t)).length)))) hm
          refine To.bind (bigint_pack.mono _ _) (fun _ _ => LeO.refl _) (pack_to m (by omega) (okL_toL _)) ⟨0, ?_⟩
          rw [vL_toL, enc_pack, add_less n m hnm _ _ (by omega)]
          rfl
        obtain ⟨k, hk⟩ := h4
        refine ⟨k, ?_⟩
        show (if _ then _ else _) = _
        rw [if_pos hc]
        exact hk
      · have hc : ¬ cmpN (vS s) (vS t) < 0 := by unfold cmpN; rw [if_neg hlt]; split <;> omega
        have h4 : To (fun k => (bigint_limbs_minus.f k (toL (vS s)) (toL (vS t))).bind fun t243 => ((bigint_pack.f k n t243).bind fun bt246 => (some (bt246.1, bt246.2)))) (enc (val n s + val m t)) := by
          refine To.bind (bigint_limbs_minus.mono _ _) (fun x k => ?_) (minus_to (vS s) (vS t) (by omega) (by omega)) ?_
          · exact mp _ _ k
          have hlen : (toL (vS s - vS t)).length ≤ s.size := Nat.le_trans (len_toL_le (Nat.lt_of_le_of_lt (Nat.sub_le _ _) (lt_of_len_toL (Nat.le_refl (toL (vS s)).length)))) hl
          refine To.bind (bigint_pack.mono _ _) (fun _ _ => LeO.refl _) (pack_to n (by omega) (okL_toL _)) ⟨0, ?_⟩
          rw [vL_toL, enc_pack, add_more n m hnm _ _ (by omega)]
          rfl
        obtain ⟨k, hk⟩ := h4
        refine ⟨k, ?_⟩
        show (if _ then _ else _) = _
        rw [if_neg hc]
        exact hk
    obtain ⟨k, hk⟩ := h3
    refine ⟨k, ?_⟩
    show (if _ then _ else _) = _
    rw [if_neg (by simpa using hnm)]
    exact hk
theorem add_to (n : Bool) (s : ByteArray) (m : Bool) (t : ByteArray) (h : s.size ≤ 1099511627776) (h2 : t.size ≤ 1099511627776) : To (fun k => bigint_Add.f k n s m t) (enc (val n s + val m t)) := by
  have mo : ∀ (x : Int) (k : Nat), LeO ((bigint_Of.f k x).bind fun bt229 => (some (bt229.1, bt229.2))) ((bigint_Of.f (k + 1) x).bind fun bt229 => (some (bt229.1, bt229.2))) := fun x k => LeO.bind (bigint_Of.mono _ k) (fun _ => LeO.refl _)
  have mj : ∀ k, LeO (bigint_Add.j0 k n s m t) (bigint_Add.j0 (k + 1) n s m t) := fun k => bigint_Add.mono_l k _ _ _ _
  obtain ⟨K, hK⟩ := (add_j n s m t h h2).at mj
  unfold bigint_Add.f
  by_cases hs : s.size ≤ 7
  · have hlit := little_to n s
    rw [if_pos hs] at hlit
    refine To.bind (bigint_little.mono _ _) (fun x k => ?_) hlit ?_
    · exact LeO.ite (LeO.bind (bigint_little.mono _ _ k) (fun _ => LeO.ite (mo _ k) (mj k))) (mj k)
    simp only [if_true]
    by_cases ht : t.size ≤ 7
    · have hlit2 := little_to m t
      rw [if_pos ht] at hlit2
      refine To.bind (bigint_little.mono _ _) (fun x k => ?_) hlit2 ?_
      · exact LeO.ite (mo _ k) (mj k)
      simp only [if_true]
      have v1 : vS s < 256 ^ 7 := Nat.lt_of_lt_of_le (vS_lt s) (Nat.pow_le_pow_right (by decide) hs)
      have v2 : vS t < 256 ^ 7 := Nat.lt_of_lt_of_le (vS_lt t) (Nat.pow_le_pow_right (by decide) ht)
      have n1 := natAbs_val n s
      have n2 := natAbs_val m t
      generalize val n s = a at *
      generalize val m t = b at *
      have e : Aside0 (wrap64 (a + b) = a + b) := ⟨w64 (by omega) (by omega)⟩
      have h4 := of_to (a + b) (by omega) (by omega)
      rw [e.out]
      exact To.bind (bigint_Of.mono _) (fun _ _ => LeO.refl _) h4 ⟨0, rfl⟩
    · have hlit2 := little_to m t
      rw [if_neg ht] at hlit2
      refine To.bind (bigint_little.mono _ _) (fun x k => ?_) hlit2 ?_
      · exact LeO.ite (mo _ k) (mj k)
      exact ⟨K, hK K (Nat.le_refl _)⟩
  · have hlit := little_to n s
    rw [if_neg hs] at hlit
    refine To.bind (bigint_little.mono _ _) (fun x k => ?_) hlit ?_
    · exact LeO.ite (LeO.bind (bigint_little.mono _ _ k) (fun _ => LeO.ite (mo _ k) (mj k))) (mj k)
    exact ⟨K, hK K (Nat.le_refl _)⟩
theorem val_not (m : Bool) (t : ByteArray) : val (!m) t = -val m t := by unfold val; cases m <;> simp
theorem sub_to (n : Bool) (s : ByteArray) (m : Bool) (t : ByteArray) (h : s.size ≤ 1099511627776) (h2 : t.size ≤ 1099511627776) : To (fun k => bigint_Sub.f k n s m t) (enc (val n s - val m t)) := by
  unfold bigint_Sub.f
  refine To.bind (bigint_Add.mono _ _ _ _) (fun x k => LeO.refl _) (add_to n s (!m) t h h2) ⟨0, ?_⟩
  rw [val_not, Int.sub_eq_add_neg]
theorem cmp_end (x y : Nat) (a b : Bool) (hx : a = true → 0 < x) (hy : b = true → 0 < y) (c1 c2 : Bool) (s t : ByteArray) (K : Nat) (h1 : bigint_limbs_compare.f K (toL x) (toL y) = some (cmpN x y)) (h2 : bigint_limbs_compare.f K (toL y) (toL x) = some (cmpN y x)) :
    bigint_Compare.j0 (K + 2) (toL x) (toL y) a s b t = some (cmpZ (if a = true then -(x : Int) else (x : Int)) (if b = true then -(y : Int) else (y : Int))) := by
  rw [show K + 2 = (K + 1) + 1 from rfl, bigint_Compare.j0, bigint_Compare.j1, bigint_Compare.j1, h1, h2]
  unfold cmpN cmpZ
  cases a <;> cases b <;> simp only [if_true, if_false, Bool.false_eq_true, Option.bind_some, Option.some.injEq, true_implies, false_implies] at hx hy ⊢
  · repeat' split
    all_goals omega
  · repeat' split
    all_goals omega
  · repeat' split
    all_goals omega
  · repeat' split
    all_goals omega
theorem compare_toZ (n : Bool) (s : ByteArray) (m : Bool) (t : ByteArray) (h : s.size ≤ 1099511627776) (h2 : t.size ≤ 1099511627776) : To (fun k => bigint_Compare.f k n s m t) (cmpZ (val n s) (val m t)) := by
  have hl := len_toL_vS s
  have hm := len_toL_vS t
  obtain ⟨k1, hk1⟩ := compare_to (vS s) (vS t) (by omega)
  obtain ⟨k2, hk2⟩ := compare_to (vS t) (vS s) (by omega)
  obtain ⟨k3, hk3⟩ := load_to s (by omega)
  obtain ⟨k4, hk4⟩ := load_to t (by omega)
  have a1 : bigint_limbs_compare.f (max (max k1 k2) (max k3 k4)) (toL (vS s)) (toL (vS t)) = _ := at_rounds (bigint_limbs_compare.mono _ _) (Nat.le_trans (Nat.le_max_left _ _) (Nat.le_max_left _ _)) hk1
  have a2 : bigint_limbs_compare.f (max (max k1 k2) (max k3 k4)) (toL (vS t)) (toL (vS s)) = _ := at_rounds (bigint_limbs_compare.mono _ _) (Nat.le_trans (Nat.le_max_right _ _) (Nat.le_max_left _ _)) hk2
  have a3 : bigint_load.f (max (max k1 k2) (max k3 k4) + 2) s = _ := at_rounds (bigint_load.mono _) (Nat.le_trans (Nat.le_trans (Nat.le_max_left _ _) (Nat.le_max_right _ _)) (Nat.le_add_right _ 2)) hk3
  have a4 : bigint_load.f (max (max k1 k2) (max k3 k4) + 2) t = _ := at_rounds (bigint_load.mono _) (Nat.le_trans (Nat.le_trans (Nat.le_max_right _ _) (Nat.le_max_right _ _)) (Nat.le_add_right _ 2)) hk4
  refine ⟨max (max k1 k2) (max k3 k4) + 2, ?_⟩
  show bigint_Compare.f _ _ _ _ _ = _
  unfold bigint_Compare.f
  rw [a3, Option.bind_some, a4, Option.bind_some]
  have p : ∀ z : Nat, decide (0 < (toL z).length) = decide (0 < z) := fun z => by
    rw [decide_eq_decide]
    constructor
    · intro hz
      rcases Nat.eq_zero_or_pos z with h0 | h0
      · rw [h0, toL_zero] at hz; simp at hz
      · exact h0
    · intro hz
      exact List.length_pos_iff.2 (fun e => by have := (toL_nil_iff z).1 e; omega)
  rw [p, p]
  have q : ∀ (b : Bool) (z : Nat), (if b = true then -(z : Int) else (z : Int)) = (if (b && decide (0 < z)) = true then -(z : Int) else (z : Int)) := fun b z => by
    rcases Nat.eq_zero_or_pos z with h0 | h0
    · subst h0; cases b <;> simp
    · cases b <;> simp [h0]
  have hfin : ∀ a b : Bool, (a = true → 0 < vS s) → (b = true → 0 < vS t) → bigint_Compare.j0 (max (max k1 k2) (max k3 k4) + 2) (toL (vS s)) (toL (vS t)) a s b t = some (cmpZ (if a = true then -((vS s : Nat) : Int) else ((vS s : Nat) : Int)) (if b = true then -((vS t : Nat) : Int) else ((vS t : Nat) : Int))) := fun a b ha hb => cmp_end _ _ a b ha hb n m s t _ a1 a2
  unfold val
  rw [q n, q m]
  cases n <;> cases m
  · exact hfin false false (by simp) (by simp)
  · simpa using hfin false (decide (0 < vS t)) (by simp) (by simp)
  · simpa using hfin (decide (0 < vS s)) false (by simp) (by simp)
  · simpa using hfin (decide (0 < vS s)) (decide (0 < vS t)) (by simp) (by simp)
/-- A canonical integer. -/
def canon (n : Bool) (s : ByteArray) : Bool := enc (val n s) == (n, s)
theorem check_to (n : Bool) (s : ByteArray) : To (fun k => bigint_Check.f k n s) (if enc (val n s) = (n, s) then 0 else 1) := by
  unfold bigint_Check.f
  refine To.bind (bigint_strip.mono _) (fun x k => LeO.refl _) (strip_to s) ⟨0, ?_⟩
  have e1 : (magOf (vS s)).toList = s.toList ↔ magOf (vS s) = s := by
    rw [Lib.toList_data, Lib.toList_data]
    exact ⟨bytes_ext, fun h => by rw [h]⟩
  have e2 : s.toList = [] ↔ s.data.toList = [] := toList_nil s
  have e3 : enc (val n s) = (decide (val n s < 0), magOf (vS s)) := by unfold enc; rw [natAbs_val]
  rw [e3]
  by_cases h : magOf (vS s) = s
  · rw [if_pos (e1.2 h)]
    have hz : s.data.toList = [] ↔ vS s = 0 := by
      constructor
      · intro h0; unfold vS; rw [h0]; rfl
      · intro h0; rw [← h, h0, magOf_data, toB_zero]
    by_cases h0 : vS s = 0
    · have hv : ¬ val n s < 0 := by unfold val; rw [h0]; cases n <;> simp
      cases n
      · rw [if_neg (by simp), if_pos (by rw [h]; simp [hv])]
      · rw [if_pos rfl, if_pos (e2.2 (hz.2 h0)), if_neg (by simp [hv])]
    · have hne : ¬ s.toList = [] := fun e => h0 (hz.1 (e2.1 e))
      cases n
      · have hv : ¬ val false s < 0 := by unfold val; simp
        rw [if_neg (by simp), if_pos (by rw [h]; simp [hv])]
      · have hv : val true s < 0 := by unfold val; simp; omega
        rw [if_pos rfl, if_neg hne, if_pos (by rw [h]; simp [hv])]
  · rw [if_neg (fun e => h (e1.1 e)), if_neg (fun e => h (by simpa using congrArg Prod.snd e))]
end Go.Proofs.Ytkmblomkocfldaa.F

/- The plain laws of Gcd and Root. -/
set_option linter.unusedVariables false
namespace Go.Proofs.Ytkmblomkocfldaa.Sp
/-- The square root, rounded down. -/
def rootN : Nat → Nat
  | 0 => 0
  | n + 1 => if (rootN n + 1) * (rootN n + 1) ≤ n + 1 then rootN n + 1 else rootN n
theorem rootN_is (n : Nat) : rootN n * rootN n ≤ n ∧ n < (rootN n + 1) * (rootN n + 1) := by
  induction n with
  | zero => simp [rootN]
  | succ n ih =>
    unfold rootN
    split
    · rename_i h
      refine ⟨h, ?_⟩
      have e : (rootN n + 1 + 1) * (rootN n + 1 + 1) = (rootN n + 1) * (rootN n + 1) + 2 * (rootN n + 1) + 1 := by grind
      rw [e]
      omega
    · rename_i h
      exact ⟨by omega, by omega⟩
theorem root_uniq {a r s : Nat} (h1 : r * r ≤ a) (h2 : a < (r + 1) * (r + 1)) (k1 : s * s ≤ a) (k2 : a < (s + 1) * (s + 1)) : r = s := by
  rcases Nat.lt_trichotomy r s with h | h | h
  · have := Nat.mul_le_mul (show r + 1 ≤ s from h) (show r + 1 ≤ s from h)
    omega
  · exact h
  · have := Nat.mul_le_mul (show s + 1 ≤ r from h) (show s + 1 ≤ r from h)
    omega
theorem amgm (x z : Nat) : 4 * (x * z) ≤ (x + z) * (x + z) := by
  rcases Nat.le_total x z with h | h
  · obtain ⟨d, rfl⟩ := Nat.exists_eq_add_of_le h
    have e : (x + (x + d)) * (x + (x + d)) = 4 * (x * (x + d)) + d * d := by grind
    omega
  · obtain ⟨d, rfl⟩ := Nat.exists_eq_add_of_le h
    have e : (z + d + z) * (z + d + z) = 4 * ((z + d) * z) + d * d := by grind
    omega
/-- Newton's step stays at or above the root. -/
theorem newton_ge {a x : Nat} (hx : 0 < x) : a < ((x + a / x) / 2 + 1) * ((x + a / x) / 2 + 1) := by
  have h1 : a < x * (a / x + 1) := by rw [Nat.mul_comm]; exact Nat.lt_mul_of_div_lt (Nat.lt_succ_self _) hx
  have h2 := amgm x (a / x + 1)
  generalize a / x = q at *
  have h3 : x + (q + 1) ≤ 2 * ((x + q) / 2 + 1) := by omega
  have h4 := Nat.mul_le_mul h3 h3
  have e : 2 * ((x + q) / 2 + 1) * (2 * ((x + q) / 2 + 1)) = 4 * (((x + q) / 2 + 1) * ((x + q) / 2 + 1)) := by grind
  rw [e] at h4
  omega
/-- Where it does not fall any more the root is found. -/
theorem newton_stop {a x : Nat} (hx : 0 < x) (h : x ≤ (x + a / x) / 2) : x * x ≤ a := by
  have h1 : x ≤ a / x := by omega
  exact (Nat.le_div_iff_mul_le hx).1 h1
end Go.Proofs.Ytkmblomkocfldaa.Sp
namespace Go.Proofs.Ytkmblomkocfldaa.F
open Go.RowKit Go.Proofs.Ytkmblomkocfldaa.Sp Go.Proofs.YtkmblomkocfldaaW.PrintWords Go.Proofs.YtkmblomkocfldaaW.PrintMore

/-! ### Gcd -/
theorem pos_toL (z : Nat) : ((toL z).length : Int) > 0 ↔ 0 < z := by
  constructor
  · intro hz
    rcases Nat.eq_zero_or_pos z with h0 | h0
    · rw [h0, toL_zero] at hz; simp at hz
    · exact h0
  · intro hz
    have := List.length_pos_iff.2 (fun e => by have := (toL_nil_iff z).1 e; omega : toL z ≠ [])
    omega
theorem len_le_of_le {a b : Nat} (h : a ≤ b) : (toL a).length ≤ (toL b).length := len_toL_le (Nat.lt_of_le_of_lt h (lt_of_len_toL (Nat.le_refl _)))
theorem len_add {x y m : Nat} (h1 : (toL x).length ≤ m) (h2 : (toL y).length ≤ m) : (toL (x + y)).length ≤ m + 1 := by
  apply len_toL_le
  have e1 := lt_of_len_toL h1
  have e2 := lt_of_len_toL h2
  rw [Nat.pow_succ]
  generalize 4294967296 ^ m = B at *
  omega
theorem gcd_l (n : Nat) : ∀ a b : Nat, b = n → (toL a).length ≤ 8796093022208 → (toL b).length ≤ 8796093022208 → To (fun k => bigint_Gcd.l0 k (toL a) (toL b)) (enc ((Nat.gcd a b : Nat) : Int)) := by
  induction n using Nat.strongRecOn with
  | _ n ih =>
    intro a b hn ha hb
    by_cases h0 : 0 < b
    · obtain ⟨k1, hk1⟩ := divide_to a b h0 ha
      have hm := Nat.mod_lt a h0
      obtain ⟨k2, hk2⟩ := ih (a % b) (by omega) b (a % b) rfl hb (Nat.le_trans (len_le_of_le (Nat.le_of_lt hm)) hb)
      refine ⟨max k1 k2 + 1, ?_⟩
      show bigint_Gcd.l0 _ _ _ = _
      rw [bigint_Gcd.l0, if_pos ((pos_toL b).2 h0)]
      have a1 : bigint_limbs_divide.f (max k1 k2) (toL a) (toL b) = _ := at_rounds (bigint_limbs_divide.mono _ _) (Nat.le_max_left _ _) hk1
      have a2 : bigint_Gcd.l0 (max k1 k2) (toL b) (toL (a % b)) = _ := at_rounds (fun k => bigint_Gcd.mono_l k _ _) (Nat.le_max_right _ _) hk2
      rw [a1, Option.bind_some]
      rw [Nat.gcd_comm a b, Nat.gcd_rec b a, Nat.gcd_comm]
      exact a2
    · have hb0 : b = 0 := by omega
      obtain ⟨k, hk⟩ := pack_to false (l := toL a) (by omega) (okL_toL a)
      rw [vL_toL, enc_pack] at hk
      refine ⟨k + 1, ?_⟩
      show bigint_Gcd.l0 _ _ _ = _
      rw [bigint_Gcd.l0, if_neg (fun e => h0 ((pos_toL b).1 e)), show bigint_pack.f k false (toL a) = _ from hk, Option.bind_some, hb0, Nat.gcd_zero_right]
      rfl
theorem gcd_to (n : Bool) (s : ByteArray) (m : Bool) (t : ByteArray) (h : s.size ≤ 1099511627776) (h2 : t.size ≤ 1099511627776) : To (fun k => bigint_Gcd.f k n s m t) (enc ((Nat.gcd (vS s) (vS t) : Nat) : Int)) := by
  have hl := len_toL_vS s
  have hm := len_toL_vS t
  unfold bigint_Gcd.f
  obtain ⟨k1, hk1⟩ := load_to s (by omega)
  obtain ⟨k2, hk2⟩ := load_to t (by omega)
  obtain ⟨k3, hk3⟩ := gcd_l _ (vS s) (vS t) rfl (by omega) (by omega)
  refine ⟨k1 + k2 + k3, ?_⟩
  show (bigint_load.f _ _).bind _ = _
  have a1 : bigint_load.f (k1 + k2 + k3) s = _ := at_rounds (bigint_load.mono _) (by omega) hk1
  have a2 : bigint_load.f (k1 + k2 + k3) t = _ := at_rounds (bigint_load.mono _) (by omega) hk2
  rw [a1, Option.bind_some, a2, Option.bind_some]
  exact at_rounds (fun k => bigint_Gcd.mono_l k _ _) (by omega) hk3

/-! ### Root -/
theorem root_l (a : Nat) (ha0 : 0 < a) (ha : (toL a).length ≤ 1099511627776) (n : Nat) : ∀ x : Nat, x = n → 0 < x → (toL x).length ≤ 1099511627776 → a < (x + 1) * (x + 1) →
    To (fun k => bigint_Root.l0 k (toL a) (toL x)) ((enc ((rootN a : Nat) : Int)).1, (enc ((rootN a : Nat) : Int)).2, decide (rootN a * rootN a = a), 0) := by
  induction n using Nat.strongRecOn with
  | _ n ih =>
    intro x hn hx hlx hax
    have hy0 : 0 < (x + a / x) / 2 ∨ x ≤ (x + a / x) / 2 := by
      rcases Nat.eq_zero_or_pos ((x + a / x) / 2) with h | h
      · have := newton_ge (a := a) hx
        rw [h] at this
        omega
      · exact .inl h
    have hql : (toL (a / x)).length ≤ (toL a).length := len_le_of_le (Nat.div_le_self a x)
    have hsum : (toL (x + a / x)).length ≤ 2199023255554 := Nat.le_trans (len_add hlx (show (toL (a / x)).length ≤ 1099511627776 by omega)) (by omega)
    obtain ⟨k1, hk1⟩ := divide_to a x hx (by omega)
    obtain ⟨k2, hk2⟩ := plus_to (okL_toL x) (okL_toL (a / x)) (by omega) (by omega)
    rw [vL_toL, vL_toL] at hk2
    obtain ⟨k3, hk3⟩ := unshift_to (okL_toL (x + a / x)) (by omega) 1 (by omega)
    rw [vL_toL, Nat.pow_one] at hk3
    have hyl : (toL ((x + a / x) / 2)).length ≤ 2199023255554 := Nat.le_trans (len_le_of_le (Nat.div_le_self _ 2)) hsum
    obtain ⟨k4, hk4⟩ := compare_to ((x + a / x) / 2) x (by omega)
    have b1 : ∀ K, k1 ≤ K → bigint_limbs_divide.f K (toL a) (toL x) = _ := fun K h => at_rounds (bigint_limbs_divide.mono _ _) h hk1
    have b2 : ∀ K, k2 ≤ K → bigint_limbs_plus.f K (toL x) (toL (a / x)) = _ := fun K h => at_rounds (bigint_limbs_plus.mono _ _) h hk2
    have b3 : ∀ K, k3 ≤ K → bigint_limbs_unshift.f K (toL (x + a / x)) 1 = _ := fun K h => at_rounds (bigint_limbs_unshift.mono _ _) h hk3
    have b4 : ∀ K, k4 ≤ K → bigint_limbs_compare.f K (toL ((x + a / x) / 2)) (toL x) = _ := fun K h => at_rounds (bigint_limbs_compare.mono _ _) h hk4
    by_cases hstop : x ≤ (x + a / x) / 2
    · have hxa := newton_stop hx hstop
      have hr := rootN_is a
      have hxr : x = rootN a := root_uniq hxa hax hr.1 hr.2
      have hxl : (toL x).length ≤ (toL a).length := len_le_of_le (Nat.le_trans (Nat.le_mul_of_pos_left x hx) hxa)
      obtain ⟨k5, hk5⟩ := pack_to false (l := toL x) (by omega) (okL_toL x)
      rw [vL_toL, enc_pack] at hk5
      obtain ⟨k6, hk6⟩ := times_to (okL_toL x) (okL_toL x) (by omega)
      rw [vL_toL] at hk6
      obtain ⟨k7, hk7⟩ := compare_to (x * x) a (Nat.le_trans (len_le_of_le hxa) (by omega))
      have b5 : ∀ K, k5 ≤ K → bigint_pack.f K false (toL x) = _ := fun K h => at_rounds (bigint_pack.mono _ _) h hk5
      have b6 : ∀ K, k6 ≤ K → bigint_limbs_times.f K (toL x) (toL x) = _ := fun K h => at_rounds (bigint_limbs_times.mono _ _) h hk6
      have b7 : ∀ K, k7 ≤ K → bigint_limbs_compare.f K (toL (x * x)) (toL a) = _ := fun K h => at_rounds (bigint_limbs_compare.mono _ _) h hk7
      have hcm : cmpN ((x + a / x) / 2) x ≥ 0 := by unfold cmpN; rw [if_neg (by omega)]; split <;> omega
      refine ⟨k1 + k2 + k3 + k4 + k5 + k6 + k7 + 1, ?_⟩
      show bigint_Root.l0 _ _ _ = _
      rw [bigint_Root.l0, b1 _ (by omega), Option.bind_some, b2 _ (by omega), Option.bind_some, b3 _ (by omega), Option.bind_some, b4 _ (by omega), Option.bind_some, if_pos hcm, b5 _ (by omega), Option.bind_some, b6 _ (by omega), Option.bind_some, b7 _ (by omega), Option.bind_some, ← hxr]
      have hd : (cmpN (x * x) a == 0) = decide (x * x = a) := by
        unfold cmpN
        by_cases h1 : x * x < a
        · rw [if_pos h1, decide_eq_false (by omega)]; rfl
        · rw [if_neg h1, if_neg (by omega), decide_eq_true (by omega)]; rfl
      rw [hd]
      rfl
    · have hcm : ¬ cmpN ((x + a / x) / 2) x ≥ 0 := by unfold cmpN; rw [if_pos (by omega)]; omega
      obtain ⟨k5, hk5⟩ := ih ((x + a / x) / 2) (by omega) _ rfl (by omega) (Nat.le_trans (len_le_of_le (show (x + a / x) / 2 ≤ x by omega)) hlx) (newton_ge hx)
      have b5 : ∀ K, k5 ≤ K → bigint_Root.l0 K (toL a) (toL ((x + a / x) / 2)) = _ := fun K h => at_rounds (fun k => bigint_Root.mono_l k _ _) h hk5
      refine ⟨k1 + k2 + k3 + k4 + k5 + 1, ?_⟩
      show bigint_Root.l0 _ _ _ = _
      rw [bigint_Root.l0, b1 _ (by omega), Option.bind_some, b2 _ (by omega), Option.bind_some, b3 _ (by omega), Option.bind_some, b4 _ (by omega), Option.bind_some, if_neg hcm]
      exact b5 _ (by omega)
theorem start_list (k : Nat) (h : k ≤ 1099511627776) : List.replicate (k / 32) (0 : Int) ++ [shl .u32 1 ((k % 32 : Nat) : Int)] = toL (2 ^ k) := by
  have hs : shl .u32 1 ((k % 32 : Nat) : Int) = ((2 ^ (k % 32) : Nat) : Int) := by
    unfold shl
    have h1 : (2 : Nat) ^ (k % 32) ≤ 2 ^ 31 := Nat.pow_le_pow_right (by decide) (by omega)
    have h2 : (2 : Nat) ^ 31 = 2147483648 := rfl
    rw [Int.toNat_natCast, show min (k % 32) IntKind.u32.bits = k % 32 from Nat.min_eq_left (by simp [IntKind.bits]; omega), Int.one_mul, show ((2 : Int) ^ (k % 32)) = ((2 ^ (k % 32) : Nat) : Int) by norm_cast, IntKind.wrap_u32]
    have h3 := Nat.two_pow_pos (k % 32)
    generalize 2 ^ (k % 32) = z at *
    omega
  rw [hs]
  have h1 : (2 : Nat) ^ (k % 32) ≤ 2 ^ 31 := Nat.pow_le_pow_right (by decide) (by omega)
  have h2 : (2 : Nat) ^ 31 = 2147483648 := rfl
  have h3 := Nat.two_pow_pos (k % 32)
  have hv : vL (List.replicate (k / 32) (0 : Int) ++ [((2 ^ (k % 32) : Nat) : Int)]) = 2 ^ k := by
    rw [vL_append, vL_replicate, Nat.zero_add, List.length_replicate, vL_cons, vL_nil, Int.toNat_natCast, Nat.mul_zero, Nat.add_zero, show (4294967296 : Nat) = 2 ^ 32 from rfl, ← Nat.pow_mul, ← Nat.pow_add]
    congr 1
    omega
  have hok : okL (List.replicate (k / 32) (0 : Int) ++ [((2 ^ (k % 32) : Nat) : Int)]) := by
    rw [okL_append, okL_cons]
    exact ⟨okL_replicate _, ⟨Int.natCast_nonneg _, by omega⟩, okL_nil⟩
  have := eq_toL hok (fun _ => by
    rw [hv, List.length_append, List.length_replicate, List.length_singleton, Nat.add_sub_cancel, show (4294967296 : Nat) = 2 ^ 32 from rfl, ← Nat.pow_mul]
    exact Nat.pow_le_pow_right (by decide) (by omega))
  rw [hv] at this
  exact this
theorem root_to (n : Bool) (s : ByteArray) (h : s.size ≤ 34359738368) : To (fun k => bigint_Root.f k n s)
    (if vS s = 0 then (false, (⟨#[]⟩ : ByteArray), true, 0) else if n = true then (false, (⟨#[]⟩ : ByteArray), false, 2) else ((enc ((rootN (vS s) : Nat) : Int)).1, (enc ((rootN (vS s) : Nat) : Int)).2, decide (rootN (vS s) * rootN (vS s) = vS s), 0)) := by
  have hl := len_toL_vS s
  obtain ⟨k1, hk1⟩ := load_to s (by omega)
  have b1 : ∀ K, k1 ≤ K → bigint_load.f K s = _ := fun K hK => at_rounds (bigint_load.mono _) hK hk1
  by_cases h0 : vS s = 0
  · refine ⟨k1, ?_⟩
    show bigint_Root.f _ _ _ = _
    unfold bigint_Root.f
    rw [b1 _ (Nat.le_refl _), Option.bind_some, h0, toL_zero]
    rfl
  have hp : ¬ ((toL (vS s)).length : Int) = 0 := by
    have := (pos_toL (vS s)).2 (by omega)
    omega
  by_cases hn : n = true
  · refine ⟨k1, ?_⟩
    show bigint_Root.f _ _ _ = _
    unfold bigint_Root.f
    rw [b1 _ (Nat.le_refl _), Option.bind_some, if_neg hp, if_pos hn, if_neg h0, if_pos hn]
  have hbl : blen (vS s) ≤ 8 * s.size := blen_le (by
    have := vS_lt s
    rwa [show (256 : Nat) = 2 ^ 8 from rfl, ← Nat.pow_mul] at this)
  have hb0 : 0 < blen (vS s) := by
    rcases Nat.eq_zero_or_pos (blen (vS s)) with h1 | h1
    · have := (blen_is (vS s)).1
      rw [h1] at this
      omega
    · exact h1
  have hk : (blen (vS s) + 1) / 2 ≤ 1099511627776 := by omega
  have hpow : (toL (2 ^ ((blen (vS s) + 1) / 2))).length ≤ 1099511627776 := by
    rw [← start_list _ hk, List.length_append, List.length_replicate, List.length_singleton]
    omega
  have hstart : vS s < (2 ^ ((blen (vS s) + 1) / 2) + 1) * (2 ^ ((blen (vS s) + 1) / 2) + 1) := by
    have h1 := (blen_is (vS s)).1
    have h2 : 2 ^ blen (vS s) ≤ 2 ^ ((blen (vS s) + 1) / 2) * 2 ^ ((blen (vS s) + 1) / 2) := by
      rw [← Nat.pow_add]; exact Nat.pow_le_pow_right (by decide) (by omega)
    have h3 := Nat.mul_le_mul (Nat.le_succ (2 ^ ((blen (vS s) + 1) / 2))) (Nat.le_succ (2 ^ ((blen (vS s) + 1) / 2)))
    exact Nat.lt_of_lt_of_le h1 (Nat.le_trans h2 h3)
  obtain ⟨k2, hk2⟩ := root_l (vS s) (by omega) (by omega) _ _ rfl (Nat.two_pow_pos _) hpow hstart
  have b2 : ∀ K, k2 ≤ K → bigint_Root.l0 K (toL (vS s)) (toL (2 ^ ((blen (vS s) + 1) / 2))) = _ := fun K hK => at_rounds (fun k => bigint_Root.mono_l k _ _) hK hk2
  refine ⟨k1 + k2, ?_⟩
  show bigint_Root.f _ _ _ = _
  unfold bigint_Root.f
  have e0 := Aside0.mk (show wrap64 (((blen (vS s) : Nat) : Int) + 1) = ((blen (vS s) + 1 : Nat) : Int) from (w64 (by omega) (by omega)).trans (by omega))
  have e1 := Aside0.mk (show wrap64 (((blen (vS s) + 1) / 2 : Nat) : Int) = (((blen (vS s) + 1) / 2 : Nat) : Int) from w64 (by omega) (by omega))
  have e2 := Aside0.mk (show wrap64 (((blen (vS s) + 1) / 2 / 32 : Nat) : Int) = (((blen (vS s) + 1) / 2 / 32 : Nat) : Int) from w64 (by omega) (by omega))
  have d1 : Aside0 (Int.tdiv ((blen (vS s) + 1 : Nat) : Int) 2 = (((blen (vS s) + 1) / 2 : Nat) : Int)) := ⟨rfl⟩
  have d2 : Aside0 (Int.tdiv (((blen (vS s) + 1) / 2 : Nat) : Int) 32 = (((blen (vS s) + 1) / 2 / 32 : Nat) : Int)) := ⟨rfl⟩
  have d3 : Aside0 (Int.tmod (((blen (vS s) + 1) / 2 : Nat) : Int) 32 = (((blen (vS s) + 1) / 2 % 32 : Nat) : Int)) := ⟨rfl⟩
  have q1 : (blen (vS s) + 1) / 2 / 32 ≤ 70368744177664 := by omega
  have q2 : (List.replicate ((blen (vS s) + 1) / 2 / 32) (0 : Int)).length + ([shl .u32 1 (((blen (vS s) + 1) / 2 % 32 : Nat) : Int)] : List Int).length < 35184372088832 := by
    rw [List.length_replicate, List.length_singleton]; omega
  rw [b1 _ (by omega), Option.bind_some, if_neg hp, if_neg hn, if_neg h0, if_neg hn, size_to _ (by omega), Option.bind_some, e0.out, d1.out, e1.out, d2.out, e2.out, d3.out, if_pos (Int.natCast_nonneg _), Int.toNat_natCast, if_pos q1, Option.bind_some, if_pos (Int.natCast_nonneg _), Option.bind_some, if_pos q2, start_list _ hk]
  exact b2 _ (by omega)
end Go.Proofs.Ytkmblomkocfldaa.F
