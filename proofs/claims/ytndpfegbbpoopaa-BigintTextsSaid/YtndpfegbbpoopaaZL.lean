import Derived.Test.YtndpfegbbpoopaaZV2
import Derived.Test.YtndpfegbbpoopaaZP
import Derived.Test.YtndpfegbbpoopaaProg
set_option linter.unusedVariables false
set_option linter.unusedSimpArgs false
namespace Go.Proofs.Ytndpfegbbpoopaa.L
open Go Go.V Go.RowKit Go.Proofs.Ytndpfegbbpoopaa.Sp Go.Proofs.Ytndpfegbbpoopaa.F Go.Proofs.YtndpfegbbpoopaaW.PrintWords
open Go.Proofs (Try.prog)
noncomputable section
def EL0 : Env := ⟨fun _ _ => none, fun _ => false, fun _ _ _ => none⟩
noncomputable def lb (g : FuncId) (p : List Bool) : Code := match subC Try.prog g p with | some (.loop c) => c | _ => .skip
theorem mixed : Try.prog.follows .mixedOrders = true := by kernel_rfl
theorem strEq_nil (s : ByteArray) : strEq s ⟨#[]⟩ = decide (s.toList = []) := by
  unfold strEq
  rw [show (⟨#[]⟩ : ByteArray).data.toList = [] from rfl]
  by_cases h : s.toList = []
  · rw [decide_eq_true h, (toList_nil s).1 h]; rfl
  · rw [decide_eq_false h]
    have : s.data.toList ≠ [] := fun e => h ((toList_nil s).2 e)
    cases hd : s.data.toList with
    | nil => exact absurd hd this
    | cons a l => rfl
theorem byteAt_bt (s : ByteArray) (i : Nat) (h : i < s.size) : byteAt s i = bt s (i : Int) := by
  have h2 : i < s.data.toList.length := by rw [len_data]; exact h
  rw [bt_nat h2]
  unfold byteAt
  rw [List.getD_eq_getElem?_getD, List.getElem?_eq_getElem h2]
  rfl
theorem strSub_extract (s : ByteArray) (a b : Nat) : strSub s a b = s.extract a b := by
  apply bytes_ext
  unfold strSub
  rw [Lib.extract_data]
def shStrip (s : ByteArray) : List AV := .val (.string s) :: List.replicate 12 .any
theorem strip_round (s : ByteArray) : roundA Try.prog EL0 29 [0] (lb 29 [false, false, true]) [false, false, false, true] (shStrip s) [] =
    (bif !strEq s ⟨#[]⟩ then bif decide ((0 : Int) ≤ 0) && decide ((0 : Int) < s.size) then bif decide (byteAt s 0 = 0) then bif decide ((0 : Int) ≤ 1) && decide ((1 : Int) ≤ s.size) then some (.normal, shStrip (strSub s 1 s.size), []) else none else some (.exit 0, shStrip s, []) else none else some (.exit 0, shStrip s, [])) := by kernel_rfl
theorem strip_body : subC Try.prog 29 [false, false, true] = some (.loop (lb 29 [false, false, true])) := by kernel_rfl
theorem strip_code : subC Try.prog 29 [false, false, false, true] = some (lb 29 [false, false, true]) := by kernel_rfl
theorem strip_step {s : ByteArray} {e : Ex} {T : List AV} {H : Hp} (h : roundA Try.prog EL0 29 [0] (lb 29 [false, false, true]) [false, false, false, true] (shStrip s) [] = some (e, T, H)) : V.Ends Try.prog false 0 0 (lb 29 [false, false, true]) (shStrip s) [] e T H :=
  round_ends (meets_none _) loops_none mixed strip_code h
theorem strip_loop : ∀ (k : Nat) (s r : ByteArray), bigint_strip.l0 k s = some r → LoopTo Try.prog (lb 29 [false, false, true]) (shStrip s) [] (.exit 0) (shStrip r) []
  | 0, s, r, h => by simp [bigint_strip.l0] at h
  | k + 1, s, r, h => by
    rw [bigint_strip.l0] at h
    have hr := strip_round s
    rw [strEq_nil] at hr
    by_cases h1 : s.toList = []
    · rw [if_pos h1] at h
      cases h
      rw [decide_eq_true h1] at hr
      exact .last (strip_step hr) (by intro h; cases h)
    · rw [if_neg h1] at h
      rw [decide_eq_false h1] at hr
      by_cases h2 : 0 < (s.size : Int)
      · rw [if_pos h2] at h
        have e0 : byteAt s 0 = bt s 0 := byteAt_bt s 0 (by omega)
        rw [e0] at hr
        simp only [h2, decide_true, Bool.not_false, cond, Int.le_refl, Bool.and_self] at hr
        by_cases h3 : bt s 0 = 0
        · rw [if_pos h3] at h
          by_cases h4 : 1 ≤ (s.size : Int)
          · rw [if_pos h4] at h
            simp only [h3, h4, decide_true, show ((0 : Int) ≤ 1) = True from by simp, Bool.and_self, strSub_extract] at hr
            exact .more (strip_step hr) (strip_loop k _ r h)
          · rw [if_neg h4] at h; cases h
        · rw [if_neg h3] at h
          cases h
          simp only [h3, decide_false] at hr
          exact .last (strip_step hr) (by intro h; cases h)
      · rw [if_neg h2] at h; cases h
def stripL (T : List AV) (H : Hp) : Option (Bool × Ex × List AV × Hp) :=
  match T, H with
  | [.val (.string s), .any, .any, .any, .any, .any, .any, .any, .any, .any, .any, .any, .any], [] => some (true, .exit 0, shStrip (magOf (vS s)), [])
  | _, _ => none
def LL1 := addL 29 [false, false, true] [0] stripL noL
theorem LL1_ok : LOk Try.prog LL1 := LOk.none.add strip_body (fun T H e T' H' h => by
  unfold stripL at h
  split at h
  · cases h
    obtain ⟨k, hk⟩ := strip_to _
    exact strip_loop k _ _ hk
  · cases h)
def stripC (args : List AV) : Option (Bool × AV) := match args with | [.val (.string s)] => some (true, .val (.string (magOf (vS s)))) | _ => none
def EL1 : Env := ⟨noC, fun _ => false, LL1⟩
theorem strip_entry : Entry Try.prog 29 stripC := by
  refine entry_of (E := EL1) (u := 10) (d := 10) (meets_none _) LL1_ok.ok mixed (by kernel_rfl) (fun args r h => ?_)
  unfold stripC at h
  split at h
  · rename_i s
    cases h
    have : callA Try.prog EL1 10 10 29 [.val (.string s)] = some (.val (.string (magOf (vS s)))) := by kernel_rfl
    exact this
  · cases h
end
end Go.Proofs.Ytndpfegbbpoopaa.L
namespace Go.Proofs.Ytndpfegbbpoopaa.L
open Go Go.V Go.RowKit Go.Proofs.Ytndpfegbbpoopaa.Sp Go.Proofs.Ytndpfegbbpoopaa.F Go.Proofs.YtndpfegbbpoopaaW.PrintWords
open Go.Proofs (Try.prog)
noncomputable section
def numOf : AV → Int
  | .val (.int .u32 z) => z
  | _ => -1
def rowOf (m : Nat) (f : Nat → Nat → AV) : List Int := (List.range m).map fun j => numOf (f j 0)
def okB (m : Nat) (f : Nat → Nat → AV) : Bool := (rowOf m f).all fun z => decide (0 ≤ z) && decide (z < 4294967296)
def lim (zs : List Int) : Nat → Nat → AV := fun j _ => .val (.int .u32 (zs.getD j 0))
def encL (n : Nat) : AV := .lst false 47 (toL n).length (lim (toL n))
theorem rowOf_lim (zs : List Int) {m : Nat} (h : m ≤ zs.length) : rowOf m (lim zs) = zs.take m := by
  apply List.ext_getElem?
  intro i
  unfold rowOf lim
  rw [List.getElem?_map, List.getElem?_take]
  simp only [numOf]
  by_cases hi : i < m
  · rw [List.getElem?_range hi, if_pos hi, List.getElem?_eq_getElem (by omega)]
    simp only [Option.map_some, List.getD_eq_getElem?_getD, List.getElem?_eq_getElem (show i < zs.length by omega), Option.getD_some, numOf]
  · rw [if_neg hi, List.getElem?_eq_none (by simpa using hi)]
    rfl
theorem rowOf_enc (n : Nat) : rowOf (toL n).length (lim (toL n)) = toL n := by rw [rowOf_lim _ (Nat.le_refl _), List.take_length]
theorem okB_iff (m : Nat) (f : Nat → Nat → AV) : okB m f = true ↔ okL (rowOf m f) := by
  unfold okB okL
  rw [List.all_eq_true]
  constructor
  · intro h x hx
    have := h x hx
    simpa using this
  · intro h x hx
    have := h x hx
    simpa using this
theorem okB_enc (n : Nat) : okB (toL n).length (lim (toL n)) = true := by rw [okB_iff, rowOf_enc]; exact okL_toL n
theorem rowOf_len (m : Nat) (f : Nat → Nat → AV) : (rowOf m f).length = m := by simp [rowOf]
section
variable {P : Program} {α : Nat → Nat × Nat} {B : Nat → Prop} {w : World} {D : Nat → Prop} {x : Value}
theorem row_congr {fl : Bool} {t : TypeId} {m : Nat} {f g : Nat → Nat → AV} (hc : P.cellsOf t = 1) (hfg : ∀ j, j < m → f j 0 = g j 0) (h : (AV.lst fl t m f).Rel P α B w D x) : (AV.lst fl t m g).Rel P α B w D x := by
  obtain ⟨A, cap, h1, h2, h3, h4⟩ := h
  refine ⟨A, cap, h1, h2, h3, ?_⟩
  rcases h4 with h4 | ⟨b, o, cs, ty, fr, h5, h6, h7, h8⟩
  · exact .inl h4
  · refine .inr ⟨b, o, cs, ty, fr, h5, h6, h7, fun j k hj hk => ?_⟩
    obtain ⟨y, h9, h10⟩ := h8 j k hj hk
    have hk0 : k = 0 := by omega
    subst hk0
    exact ⟨y, h9, by rw [← hfg j hj]; exact h10⟩
theorem row_norm {fl : Bool} {t : TypeId} {m : Nat} {f : Nat → Nat → AV} (hc : P.cellsOf t = 1) (hok : okB m f = true) (h : (AV.lst fl t m f).Rel P α B w D x) : (AV.lst fl t m (lim (rowOf m f))).Rel P α B w D x := by
  refine row_congr hc (fun j hj => ?_) h
  have hj2 : j < (rowOf m f).length := by rw [rowOf_len]; exact hj
  have hr := (okB_iff m f).1 hok _ (List.getElem_mem hj2)
  unfold lim
  rw [List.getD_eq_getElem?_getD, List.getElem?_eq_getElem hj2, Option.getD_some]
  have e : (rowOf m f)[j] = numOf (f j 0) := by simp [rowOf]
  rw [e] at hr ⊢
  unfold numOf at hr ⊢
  split at hr
  · rename_i z hz
    rw [hz]
  · omega
end
theorem entry_to {E : Env} {g : FuncId} (hC : Meets Try.prog E.C) (hL : LoopsOk Try.prog E) (hok : okFn Try.prog g = true) {u d : Nat} {f : List AV → Option (Bool × AV)}
    (h : ∀ args r, f args = some (true, r) → ∃ args' v, callA Try.prog E u d g args' = some v ∧ (∀ (B : Nat → Prop) (w : World) (ys : List Value), RelL Try.prog NoA B w args NoD ys → RelL Try.prog NoA B w args' NoD ys) ∧ (∀ (B : Nat → Prop) (w : World) (y : Value), v.Rel Try.prog NoA B w NoD y → r.Rel Try.prog NoA B w NoD y)) : Entry Try.prog g f := by
  intro args r hr B w xs hB hx
  obtain ⟨args', v, h1, h2, h3⟩ := h args r hr
  refine (callA_sound hC hL mixed hok h1 B w xs hB (h2 B w _ hx)).mono ?_
  rintro e w' ⟨y, h4, h5, h6⟩
  exact ⟨y, h4, h5, h3 B w' y h6⟩
def shTrim (zs : List Int) (m : Nat) : List AV := .lst false 47 m (lim zs) :: List.replicate 20 .any
theorem trim_body : subC Try.prog 39 [false, false, true] = some (.loop (lb 39 [false, false, true])) := by kernel_rfl
theorem trim_code : subC Try.prog 39 [false, false, false, true] = some (lb 39 [false, false, true]) := by kernel_rfl
theorem trim_round (zs : List Int) (m : Nat) : roundA Try.prog EL0 39 [0] (lb 39 [false, false, true]) [false, false, false, true] (shTrim zs m) [] =
    (bif decide ((0 : Int) < m) then bif inR .i64 ((m : Int) - 1) then bif decide (0 ≤ (m : Int) - 1) && decide ((m : Int) - 1 < m) then bif decide (zs.getD ((m : Int) - 1).toNat 0 = 0) then bif inR .i64 ((m : Int) - 1) then bif decide (0 ≤ (m : Int) - 1) && decide ((m : Int) - 1 ≤ m) then some (.normal, shTrim zs ((m : Int) - 1).toNat, []) else none else none else some (.exit 0, shTrim zs m, []) else none else none else some (.exit 0, shTrim zs m, [])) := by kernel_rfl
theorem trim_step {zs : List Int} {m : Nat} {e : Ex} {T : List AV} {H : Hp} (h : roundA Try.prog EL0 39 [0] (lb 39 [false, false, true]) [false, false, false, true] (shTrim zs m) [] = some (e, T, H)) : V.Ends Try.prog false 0 0 (lb 39 [false, false, true]) (shTrim zs m) [] e T H :=
  round_ends (meets_none _) loops_none mixed trim_code h
theorem i64_ok {z : Int} (h0 : -9223372036854775808 ≤ z) (h1 : z ≤ 9223372036854775807) : inR .i64 z = true := by
  unfold inR
  rw [Bool.and_eq_true, decide_eq_true_eq, decide_eq_true_eq]
  exact ⟨h0, h1⟩
def trimN (zs : List Int) : Nat → Nat
  | 0 => 0
  | m + 1 => if zs.getD m 0 = 0 then trimN zs m else m + 1
theorem trim_loop (zs : List Int) : ∀ (m : Nat), m ≤ 140737488355328 → LoopTo Try.prog (lb 39 [false, false, true]) (shTrim zs m) [] (.exit 0) (shTrim zs (trimN zs m)) []
  | 0, _ => .last (trim_step (by rw [trim_round]; rfl)) (by intro h; cases h)
  | m + 1, hm => by
    have hr := trim_round zs (m + 1)
    have e1 : (((m + 1 : Nat) : Int) - 1) = (m : Int) := by omega
    rw [e1, i64_ok (by omega) (by omega), decide_eq_true (show (0 : Int) < ((m + 1 : Nat) : Int) by omega), decide_eq_true (show (0 : Int) ≤ (m : Int) by omega), decide_eq_true (show (m : Int) < ((m + 1 : Nat) : Int) by omega), decide_eq_true (show (m : Int) ≤ ((m + 1 : Nat) : Int) by omega), Int.toNat_natCast] at hr
    unfold trimN
    by_cases h : zs.getD m 0 = 0
    · rw [if_pos h]
      rw [decide_eq_true h] at hr
      exact .more (trim_step hr) (trim_loop zs m (by omega))
    · rw [if_neg h]
      rw [decide_eq_false h] at hr
      exact .last (trim_step hr) (by intro h; cases h)
theorem trimN_le (zs : List Int) : ∀ m, trimN zs m ≤ m
  | 0 => Nat.le_refl _
  | m + 1 => by
    unfold trimN
    split
    · exact Nat.le_trans (trimN_le zs m) (Nat.le_succ m)
    · exact Nat.le_refl _
theorem trimN_row {zs : List Int} (hok : okL zs) : ∀ m, m ≤ zs.length → zs.take (trimN zs m) = toL (vL (zs.take m))
  | 0, _ => by rw [trimN, List.take_zero, vL_nil, toL_zero]
  | m + 1, hm => by
    have hlt : m < zs.length := hm
    have hg : zs.getD m 0 = zs[m] := by rw [List.getD_eq_getElem?_getD, List.getElem?_eq_getElem hlt]; rfl
    have ht : zs.take (m + 1) = zs.take m ++ [zs[m]] := by rw [List.take_add_one, List.getElem?_eq_getElem hlt]; rfl
    unfold trimN
    by_cases h : zs.getD m 0 = 0
    · rw [if_pos h, trimN_row hok m (by omega), ht, vL_append, show zs[m] = 0 by rw [← hg]; exact h]
      simp [vL_cons, vL_nil]
    · rw [if_neg h]
      have hokt : okL (zs.take (m + 1)) := fun x hx => hok x (List.mem_of_mem_take hx)
      refine eq_toL hokt (fun _ => ?_)
      rw [List.length_take, Nat.min_eq_left hm, ht, vL_append, List.length_take, Nat.min_eq_left (by omega), vL_cons, vL_nil]
      have h0 := hok _ (List.getElem_mem hlt)
      have : 1 ≤ (zs[m]).toNat := by
        have : zs[m] ≠ 0 := by rw [← hg]; exact h
        omega
      simp only [Nat.mul_zero, Nat.add_zero, Nat.add_sub_cancel]
      have := Nat.mul_le_mul_left (4294967296 ^ m) this
      omega
def trimL (T : List AV) (H : Hp) : Option (Bool × Ex × List AV × Hp) :=
  match T, H with
  | [.lst false 47 m f, .any, .any, .any, .any, .any, .any, .any, .any, .any, .any, .any, .any, .any, .any, .any, .any, .any, .any, .any, .any], [] => some (okB m f && decide (m ≤ 140737488355328), .exit 0, shTrim (rowOf m f) (trimN (rowOf m f) m), [])
  | _, _ => none
theorem cells47 : Try.prog.cellsOf 47 = 1 := by kernel_rfl
def LL2 := addL 39 [false, false, true] [0] trimL LL1
theorem LL2_ok : LOk Try.prog LL2 := LL1_ok.add2 trim_body (fun T H e T' H' h => by
  unfold trimL at h
  split at h
  · rename_i m f
    simp only [Option.some.injEq, Prod.mk.injEq, Bool.and_eq_true, decide_eq_true_eq] at h
    obtain ⟨⟨hok, hm⟩, rfl, rfl, rfl⟩ := h
    refine Ends.pre (trim_loop (rowOf m f) m hm).ends (fun α B w D ys hr => ?_)
    obtain ⟨y, zs, rfl, h1, h2⟩ := hr
    exact ⟨y, zs, rfl, row_norm cells47 hok h1, h2⟩
  · cases h)
def EL2 : Env := ⟨addC 29 stripC noC, fun _ => false, LL2⟩
theorem EL2_C : Meets Try.prog EL2.C := (meets_none _).add strip_entry
def trimC (args : List AV) : Option (Bool × AV) := match args with | [.lst fl 47 m f] => some (okB m f && decide (m ≤ 140737488355328), encL (vL (rowOf m f))) | _ => none
theorem trim_call (zs : List Int) (m : Nat) : callA Try.prog EL2 10 10 39 [.lst false 47 m (lim zs)] = (bif okB m (lim zs) && decide (m ≤ 140737488355328) then some (.lst false 47 (trimN (rowOf m (lim zs)) m) (lim (rowOf m (lim zs)))) else none) := by kernel_rfl
theorem trim_entry : Entry Try.prog 39 trimC := by
  refine entry_to (E := EL2) (u := 10) (d := 10) EL2_C LL2_ok.ok (by kernel_rfl) (fun args r h => ?_)
  unfold trimC at h
  split at h
  · rename_i fl m f
    simp only [Option.some.injEq, Prod.mk.injEq, Bool.and_eq_true, decide_eq_true_eq] at h
    obtain ⟨⟨hok, hm⟩, rfl⟩ := h
    have hl := rowOf_len m f
    have hok2 := (okB_iff m f).1 hok
    have hrow : rowOf m (lim (rowOf m f)) = rowOf m f := by rw [rowOf_lim _ (by omega), List.take_of_length_le (by omega)]
    have hcall := trim_call (rowOf m f) m
    rw [hrow, show okB m (lim (rowOf m f)) = true by rw [okB_iff, hrow]; exact hok2, decide_eq_true hm] at hcall
    refine ⟨_, _, hcall, fun B w ys hr => ?_, fun B w y hr => ?_⟩
    · obtain ⟨y, zs, rfl, h1, h2⟩ := hr
      exact ⟨y, zs, rfl, lst_flag (row_norm cells47 hok h1), h2⟩
    · have e := trimN_row hok2 m (by omega)
      rw [show (rowOf m f).take m = rowOf m f from List.take_of_length_le (by omega)] at e
      have el : trimN (rowOf m f) m = (toL (vL (rowOf m f))).length := by
        rw [← e, List.length_take, Nat.min_eq_left (Nat.le_trans (trimN_le _ _) (by omega))]
      unfold encL
      rw [← el]
      refine row_congr cells47 (fun j hj => ?_) hr
      unfold lim
      rw [← e, List.getD_eq_getElem?_getD, List.getD_eq_getElem?_getD, List.getElem?_take, if_pos hj]
  · cases h
end
end Go.Proofs.Ytndpfegbbpoopaa.L
namespace Go.Proofs.Ytndpfegbbpoopaa.L
open Go Go.V Go.RowKit Go.Proofs.Ytndpfegbbpoopaa.Sp Go.Proofs.Ytndpfegbbpoopaa.F Go.Proofs.YtndpfegbbpoopaaW.PrintWords
open Go.Proofs (Try.prog)
noncomputable section
def shCmp (zs us : List Int) (m : Nat) (i : Int) : List AV := slots 43 [(0, .lst false 47 m (lim zs)), (1, .lst false 47 m (lim us)), (5, .val (.int .i64 i))]
theorem cmp_body : subC Try.prog 28 [false, true, false, true, true] = some (.loop (lb 28 [false, true, false, true, true])) := by kernel_rfl
theorem cmp_code : subC Try.prog 28 [false, false, true, false, true, true] = some (lb 28 [false, true, false, true, true]) := by kernel_rfl
theorem cmp_round (zs us : List Int) (m : Nat) (i : Int) : roundA Try.prog EL0 28 [0, 1, 4, 5] (lb 28 [false, true, false, true, true]) [false, false, true, false, true, true] (shCmp zs us m i) [] =
    (bif decide (0 ≤ i) then bif decide (0 ≤ i) && decide (i < m) then bif decide (0 ≤ i) && decide (i < m) then bif decide (zs.getD i.toNat 0 < us.getD i.toNat 0) then some (.ret, slots 43 [(0, .lst false 47 m (lim zs)), (1, .lst false 47 m (lim us)), (4, .val (.int .i64 (-1))), (5, .val (.int .i64 i))], [])
      else bif decide (0 ≤ i) && decide (i < m) then bif decide (0 ≤ i) && decide (i < m) then bif decide (us.getD i.toNat 0 < zs.getD i.toNat 0) then some (.ret, slots 43 [(0, .lst false 47 m (lim zs)), (1, .lst false 47 m (lim us)), (4, .val (.int .i64 1)), (5, .val (.int .i64 i))], [])
      else bif inR .i64 (i - 1) then some (.normal, shCmp zs us m (i - 1), []) else none else none else none else none else none else some (.exit 0, shCmp zs us m i, [])) := by kernel_rfl
theorem cmp_step {zs us : List Int} {m : Nat} {i : Int} {e : Ex} {T : List AV} {H : Hp} (h : roundA Try.prog EL0 28 [0, 1, 4, 5] (lb 28 [false, true, false, true, true]) [false, false, true, false, true, true] (shCmp zs us m i) [] = some (e, T, H)) : V.Ends Try.prog false 0 0 (lb 28 [false, true, false, true, true]) (shCmp zs us m i) [] e T H :=
  round_ends (meets_none _) loops_none mixed cmp_code h
def cmpD (zs us : List Int) : Nat → Int
  | 0 => 0
  | j + 1 => if zs.getD j 0 < us.getD j 0 then -1 else if us.getD j 0 < zs.getD j 0 then 1 else cmpD zs us j
def cmpE (c : Int) : Ex := if c = 0 then .exit 0 else .ret
def cmpT (c : Int) : List AV := if c = 0 then slots 43 [] else slots 43 [(4, .val (.int .i64 c))]
theorem cmp_loop (zs us : List Int) (m : Nat) : ∀ (d : Nat), d ≤ m → m ≤ 140737488355328 → LoopTo Try.prog (lb 28 [false, true, false, true, true]) (shCmp zs us m ((d : Int) - 1)) [] (cmpE (cmpD zs us d)) (cmpT (cmpD zs us d)) []
  | 0, _, _ => .last (ends_gc (keep := []) (cmp_step (by rw [cmp_round]; rfl)) (by kernel_rfl)) (by intro h; cases h)
  | d + 1, hd, hm => by
    have hr := cmp_round zs us m (d : Int)
    rw [decide_eq_true (show (0 : Int) ≤ (d : Int) by omega), decide_eq_true (show (d : Int) < (m : Int) by omega), i64_ok (by omega) (by omega), Int.toNat_natCast] at hr
    rw [show (((d + 1 : Nat) : Int) - 1) = (d : Int) by omega]
    unfold cmpD
    by_cases h1 : zs.getD d 0 < us.getD d 0
    · rw [if_pos h1]
      rw [decide_eq_true h1] at hr
      exact .last (ends_gc (keep := [4]) (cmp_step hr) (by kernel_rfl)) (by intro h; cases h)
    · rw [if_neg h1]
      rw [decide_eq_false h1] at hr
      by_cases h2 : us.getD d 0 < zs.getD d 0
      · rw [if_pos h2]
        rw [decide_eq_true h2] at hr
        exact .last (ends_gc (keep := [4]) (cmp_step hr) (by kernel_rfl)) (by intro h; cases h)
      · rw [if_neg h2]
        rw [decide_eq_false h2] at hr
        exact .more (cmp_step hr) (cmp_loop zs us m d (by omega) hm)
theorem cmpD_eq {zs us : List Int} (hz : okL zs) (hu : okL us) : ∀ d, d ≤ zs.length → d ≤ us.length → cmpD zs us d = cmpN (vL (zs.take d)) (vL (us.take d))
  | 0, _, _ => by simp [cmpD, cmpN]
  | d + 1, h1, h2 => by
    have g1 : zs.getD d 0 = zs[d] := by rw [List.getD_eq_getElem?_getD, List.getElem?_eq_getElem h1]; rfl
    have g2 : us.getD d 0 = us[d] := by rw [List.getD_eq_getElem?_getD, List.getElem?_eq_getElem h2]; rfl
    have t1 : zs.take (d + 1) = zs.take d ++ [zs[d]] := by rw [List.take_add_one, List.getElem?_eq_getElem h1]; rfl
    have t2 : us.take (d + 1) = us.take d ++ [us[d]] := by rw [List.take_add_one, List.getElem?_eq_getElem h2]; rfl
    have b1 := vL_lt (l := zs.take d) (fun x hx => hz x (List.mem_of_mem_take hx))
    have b2 := vL_lt (l := us.take d) (fun x hx => hu x (List.mem_of_mem_take hx))
    have ih := cmpD_eq hz hu d (by omega) (by omega)
    have o1 := hz _ (List.getElem_mem h1)
    have o2 := hu _ (List.getElem_mem h2)
    rw [List.length_take, Nat.min_eq_left (by omega)] at b1 b2
    unfold cmpD
    rw [g1, g2, t1, t2, vL_append, vL_append, List.length_take, List.length_take, Nat.min_eq_left (by omega), Nat.min_eq_left (by omega), vL_cons, vL_cons, vL_nil, ih]
    generalize vL (zs.take d) = a at *
    generalize vL (us.take d) = b at *
    generalize zs[d] = x at *
    generalize us[d] = y at *
    simp only [Nat.mul_zero, Nat.add_zero]
    unfold cmpN
    by_cases c1 : x < y
    · have := Nat.mul_le_mul_left (4294967296 ^ d) (show x.toNat + 1 ≤ y.toNat by omega)
      rw [Nat.mul_add, Nat.mul_one] at this
      rw [if_pos c1, if_pos (by omega)]
    · rw [if_neg c1]
      by_cases c2 : y < x
      · have := Nat.mul_le_mul_left (4294967296 ^ d) (show y.toNat + 1 ≤ x.toNat by omega)
        rw [Nat.mul_add, Nat.mul_one] at this
        rw [if_pos c2, if_neg (by omega), if_pos (by omega)]
      · have : x = y := by omega
        subst this
        rw [if_neg c2]
        simp only [Nat.add_lt_add_iff_right]
def canB (m : Nat) (f : Nat → Nat → AV) : Bool := okB m f && decide (rowOf m f = toL (vL (rowOf m f)))
def cmpOk (w : Bool) (m n : Nat) (f g : Nat → Nat → AV) (i : Int) : Bool :=
  okB m f && okB n g && decide (m = n) && decide (-1 ≤ i) && decide (i < m) && decide (m ≤ 140737488355328) && (decide (cmpD (rowOf m f) (rowOf n g) (i + 1).toNat = 0) == w)
def cmpL (w : Bool) (T : List AV) (H : Hp) : Option (Bool × Ex × List AV × Hp) :=
  match lget T 0, lget T 1, lget T 5, H with
  | .lst false 47 m f, .lst false 47 n g, .val (.int .i64 i), [] => bif T.length == 43 then some (cmpOk w m n f g i, bif w then .exit 0 else .ret, bif w then slots 43 [] else slots 43 [(4, .val (.int .i64 (cmpD (rowOf m f) (rowOf n g) (i + 1).toNat)))], []) else none
  | _, _, _, _ => none
theorem cmpL_ok (w : Bool) (T : List AV) (H : Hp) (e : Ex) (T' : List AV) (H' : Hp) (h : cmpL w T H = some (true, e, T', H')) : V.Ends Try.prog false 0 0 (.loop (lb 28 [false, true, false, true, true])) T H e T' H' := by
  unfold cmpL at h
  split at h
  · rename_i m f n g i h0 h1 h5
    rw [Bool.cond_eq_ite] at h
    split at h
    · rename_i hlen
      rw [beq_iff_eq] at hlen
      simp only [Option.some.injEq, Prod.mk.injEq] at h
      obtain ⟨hok, rfl, rfl, rfl⟩ := h
      unfold cmpOk at hok
      simp only [Bool.and_eq_true, decide_eq_true_eq] at hok
      obtain ⟨⟨⟨⟨⟨⟨k1, k2⟩, rfl⟩, k4⟩, k5⟩, k6⟩, k7⟩ := hok
      have hl := (cmp_loop (rowOf m f) (rowOf m g) m (i + 1).toNat (by omega) k6).ends
      rw [show (((i + 1).toNat : Nat) : Int) - 1 = i by omega] at hl
      have hl2 : V.Ends Try.prog false 0 0 (.loop (lb 28 [false, true, false, true, true])) (shCmp (rowOf m f) (rowOf m g) m i) [] (bif w then .exit 0 else .ret) (bif w then slots 43 [] else slots 43 [(4, .val (.int .i64 (cmpD (rowOf m f) (rowOf m g) (i + 1).toNat)))]) [] := by
        generalize cmpD (rowOf m f) (rowOf m g) (i + 1).toNat = c at *
        unfold cmpE cmpT at hl
        cases w with
        | true =>
          have hc : c = 0 := by simpa using k7
          rw [if_pos hc, if_pos hc] at hl
          exact hl
        | false =>
          have hc : c ≠ 0 := by simpa using k7
          rw [if_neg hc, if_neg hc] at hl
          exact hl
      refine Ends.pre hl2 (fun α B w D ys hr => slots_rel hlen (fun p hp y hy => ?_) hr)
      simp only [List.mem_cons, List.not_mem_nil, or_false] at hp
      rcases hp with rfl | rfl | rfl
      · rw [h0] at hy; exact row_norm cells47 k1 hy
      · rw [h1] at hy; exact row_norm cells47 k2 hy
      · rw [h5] at hy; exact hy
    · cases h
  · cases h
def ELc (w : Bool) : Env := ⟨noC, fun _ => false, addL 28 [false, true, false, true, true] [0, 1, 5] (cmpL w) noL⟩
theorem ELc_ok (w : Bool) : LoopsOk Try.prog (ELc w) := (LOk.none.add2 cmp_body (cmpL_ok w)).ok
theorem cmp_call (w : Bool) (zs us : List Int) (m n : Nat) : callA Try.prog (ELc w) 10 10 28 [.lst false 47 m (lim zs), .lst false 47 n (lim us)] =
    (bif !decide ((m : Int) = n) then bif decide ((m : Int) < n) then some (.val (.int .i64 (-1))) else some (.val (.int .i64 1)) else bif inR .i64 ((m : Int) - 1) then bif cmpOk w m n (lim zs) (lim us) ((m : Int) - 1) then (match w with | true => some (.val (.int .i64 0)) | false => some (.val (.int .i64 (cmpD (rowOf m (lim zs)) (rowOf n (lim us)) ((m : Int) - 1 + 1).toNat)))) else none else none) := by
  cases w <;> kernel_rfl
def compareC (args : List AV) : Option (Bool × AV) := match args with
  | [.lst _ 47 m f, .lst _ 47 n g] => some (canB m f && canB n g && decide (m ≤ 140737488355328) && decide (n ≤ 140737488355328), .val (.int .i64 (cmpN (vL (rowOf m f)) (vL (rowOf n g)))))
  | _ => none
theorem compare_entry : Entry Try.prog 28 compareC := by
  intro args r hr
  unfold compareC at hr
  split at hr
  · rename_i fl1 m f fl2 n g
    simp only [Option.some.injEq, Prod.mk.injEq, Bool.and_eq_true, decide_eq_true_eq] at hr
    obtain ⟨⟨⟨⟨hc1, hc2⟩, hm⟩, hn⟩, rfl⟩ := hr
    unfold canB at hc1 hc2
    rw [Bool.and_eq_true, decide_eq_true_eq] at hc1 hc2
    have l1 := rowOf_len m f
    have l2 := rowOf_len n g
    have r1 : rowOf m (lim (rowOf m f)) = rowOf m f := by rw [rowOf_lim _ (by omega), List.take_of_length_le (by omega)]
    have r2 : rowOf n (lim (rowOf n g)) = rowOf n g := by rw [rowOf_lim _ (by omega), List.take_of_length_le (by omega)]
    have o1 := (okB_iff m f).1 hc1.1
    have o2 := (okB_iff n g).1 hc2.1
    have b1 : okB m (lim (rowOf m f)) = true := by rw [okB_iff, r1]; exact o1
    have b2 : okB n (lim (rowOf n g)) = true := by rw [okB_iff, r2]; exact o2
    have key : ∃ w v, callA Try.prog (ELc w) 10 10 28 [.lst false 47 m (lim (rowOf m f)), .lst false 47 n (lim (rowOf n g))] = some v ∧ v = .val (.int .i64 (cmpN (vL (rowOf m f)) (vL (rowOf n g)))) := by
      by_cases hmn : m = n
      · subst hmn
        have hD := cmpD_eq o1 o2 m (by omega) (by omega)
        rw [List.take_of_length_le (by omega), List.take_of_length_le (by omega)] at hD
        have hcall := cmp_call (decide (cmpD (rowOf m f) (rowOf m g) m = 0)) (rowOf m f) (rowOf m g) m m
        have e1 : ((m : Int) - 1 + 1).toNat = m := by omega
        have hk : cmpOk (decide (cmpD (rowOf m f) (rowOf m g) m = 0)) m m (lim (rowOf m f)) (lim (rowOf m g)) ((m : Int) - 1) = true := by
          unfold cmpOk
          rw [b1, b2, r1, r2, e1, decide_eq_true (show (-1 : Int) ≤ (m : Int) - 1 by omega), decide_eq_true (show ((m : Int) - 1) < (m : Int) by omega), decide_eq_true hm]
          simp
        rw [hk, r1, r2, e1, i64_ok (by omega) (by omega)] at hcall
        simp only [decide_true, Bool.not_true, cond] at hcall
        by_cases h0 : cmpD (rowOf m f) (rowOf m g) m = 0
        · rw [decide_eq_true h0] at hcall
          exact ⟨_, _, hcall, by rw [← hD, h0]⟩
        · rw [decide_eq_false h0] at hcall
          exact ⟨_, _, hcall, by rw [← hD]⟩
      · have hcall := cmp_call true (rowOf m f) (rowOf n g) m n
        rw [decide_eq_false (show ¬ (m : Int) = n by omega)] at hcall
        have e1 : (toL (vL (rowOf m f))).length = m := by rw [← hc1.2, l1]
        have e2 : (toL (vL (rowOf n g))).length = n := by rw [← hc2.2, l2]
        by_cases h2 : (m : Int) < n
        · rw [decide_eq_true h2] at hcall
          refine ⟨_, _, hcall, ?_⟩
          have := le_of_len_toL (show (toL (vL (rowOf m f))).length < (toL (vL (rowOf n g))).length by omega)
          have h3 := lt_of_len_toL (Nat.le_refl (toL (vL (rowOf m f))).length)
          unfold cmpN
          rw [if_pos (by omega)]
        · rw [decide_eq_false h2] at hcall
          refine ⟨_, _, hcall, ?_⟩
          have := le_of_len_toL (show (toL (vL (rowOf n g))).length < (toL (vL (rowOf m f))).length by omega)
          have h3 := lt_of_len_toL (Nat.le_refl (toL (vL (rowOf n g))).length)
          unfold cmpN
          rw [if_neg (by omega), if_pos (by omega)]
    obtain ⟨w, v, hv, rfl⟩ := key
    intro B wd xs hB hx
    refine callA_sound (meets_none _) (ELc_ok w) mixed (by kernel_rfl) hv B wd xs hB ?_
    obtain ⟨y, zs, hxs, q1, q2⟩ := hx
    obtain ⟨y2, zs2, rfl, q3, q4⟩ := q2
    rw [hxs]
    exact ⟨y, _, rfl, lst_flag (row_norm cells47 hc1.1 q1), y2, zs2, rfl, lst_flag (row_norm cells47 hc2.1 q3), q4⟩
  · cases hr
end
end Go.Proofs.Ytndpfegbbpoopaa.L
namespace Go.Proofs.Ytndpfegbbpoopaa.L
open Go Go.V Go.RowKit Go.Proofs.Ytndpfegbbpoopaa.Sp Go.Proofs.Ytndpfegbbpoopaa.F Go.Proofs.YtndpfegbbpoopaaW.PrintWords
open Go.Proofs (Try.prog)
noncomputable section
def shLoad (s : ByteArray) (m : Nat) (n i : Int) : List AV := slots 41 [(0, .val (.string s)), (3, .sl false 47 0 0 m), (15, .val (.int .i64 n)), (16, .val (.int .i64 i))]
def hpLoad (zs : List Int) : Hp := [.row (.ints .u32 zs) 47 .live]
abbrev pLoad : List Bool := [false, true, false, true, true, true]
theorem load_body : subC Try.prog 25 pLoad = some (.loop (lb 25 pLoad)) := by kernel_rfl
theorem load_code : subC Try.prog 25 (false :: pLoad) = some (lb 25 pLoad) := by kernel_rfl
theorem load_round (s : ByteArray) (zs : List Int) (m : Nat) (n i : Int) : roundA Try.prog EL0 25 [0, 3, 15, 16] (lb 25 pLoad) (false :: pLoad) (shLoad s m n i) (hpLoad zs) =
    (bif decide (i < n) then bif inR .i64 ((s.size : Int) - 1) then bif inR .i64 ((s.size : Int) - 1 - i) then bif inR .i64 (i.tdiv 4) then
      bif decide (0 ≤ i.tdiv 4) && decide (i.tdiv 4 < m) then bif decide (0 + (i.tdiv 4).toNat * 1 < zs.length) then bif decide (0 ≤ (s.size : Int) - 1 - i) && decide ((s.size : Int) - 1 - i < s.size) then
      bif inR .u32 (byteAt s ((s.size : Int) - 1 - i).toNat) then bif inR .i64 (8 * i.tmod 4) then bif decide (8 * i.tmod 4 < 0) then none else
      bif decide (0 ≤ i.tdiv 4) && decide (i.tdiv 4 < m) then bif decide (0 + (i.tdiv 4).toNat * 1 < zs.length) then bif inR .i64 (i + 1) then
      some (.normal, shLoad s m n (i + 1), hpLoad (zs.set (0 + (i.tdiv 4).toNat * 1) (bitI .or .u32 (zs.getD (0 + (i.tdiv 4).toNat * 1) 0) (IntKind.u32.wrap (byteAt s ((s.size : Int) - 1 - i).toNat * 2 ^ min (8 * i.tmod 4).toNat IntKind.u32.bits)))))
      else none else none else none else none else none else none else none else none else none else none else none else some (.exit 0, shLoad s m n i, hpLoad zs)) := by kernel_rfl
theorem load_step {s : ByteArray} {zs : List Int} {m : Nat} {n i : Int} {e : Ex} {T : List AV} {H : Hp} (h : roundA Try.prog EL0 25 [0, 3, 15, 16] (lb 25 pLoad) (false :: pLoad) (shLoad s m n i) (hpLoad zs) = some (e, T, H)) : V.Ends Try.prog false 0 0 (lb 25 pLoad) (shLoad s m n i) (hpLoad zs) e T H :=
  round_ends (meets_none _) loops_none mixed load_code h
def load1 (s : ByteArray) (i : Nat) (out : List Int) : List Int := out.set (i / 4) (bitI .or .u32 (out.getD (i / 4) 0) (IntKind.u32.wrap (byteAt s (s.size - 1 - i) * 2 ^ min (8 * (i % 4)) IntKind.u32.bits)))
def loadTo (s : ByteArray) : Nat → Nat → List Int → List Int
  | 0, _, out => out
  | d + 1, i, out => loadTo s d (i + 1) (load1 s i out)
theorem byteAt_lt (s : ByteArray) (i : Nat) : 0 ≤ byteAt s i ∧ byteAt s i < 256 := by
  unfold byteAt
  have := (s.data.toList.getD i 0).toNat_lt
  omega
theorem load_loop (s : ByteArray) (m : Nat) (hs : s.size ≤ 140737488355328) (hm : m = (s.size + 3) / 4) : ∀ (d i : Nat) (out : List Int), i + d = s.size → out.length = m → LoopTo Try.prog (lb 25 pLoad) (shLoad s m s.size i) (hpLoad out) (.exit 0) (shLoad s m s.size s.size) (hpLoad (loadTo s d i out))
  | 0, i, out, hi, hl => by
    have hr := load_round s out m s.size i
    have : i = s.size := by omega
    subst this
    rw [decide_eq_false (show ¬ ((s.size : Int) < s.size) by omega)] at hr
    exact .last (load_step hr) (by intro h; cases h)
  | d + 1, i, out, hi, hl => by
    have hr := load_round s out m s.size i
    have e1 : (i : Int).tdiv 4 = ((i / 4 : Nat) : Int) := ld2 i
    have e2 : (i : Int).tmod 4 = ((i % 4 : Nat) : Int) := ld3 i
    have e3 : (s.size : Int) - 1 - i = ((s.size - 1 - i : Nat) : Int) := by omega
    have e4 : 8 * ((i % 4 : Nat) : Int) = ((8 * (i % 4) : Nat) : Int) := by omega
    have hb := byteAt_lt s (s.size - 1 - i)
    rw [e1, e2, e3, e4, Int.toNat_natCast, Int.toNat_natCast, Int.toNat_natCast, Nat.zero_add, Nat.mul_one] at hr
    rw [decide_eq_true (show (i : Int) < s.size by omega), i64_ok (show -9223372036854775808 ≤ (s.size : Int) - 1 by omega) (by omega), i64_ok (show -9223372036854775808 ≤ ((s.size - 1 - i : Nat) : Int) by omega) (by omega), i64_ok (show -9223372036854775808 ≤ ((i / 4 : Nat) : Int) by omega) (by omega), i64_ok (show -9223372036854775808 ≤ ((8 * (i % 4) : Nat) : Int) by omega) (by omega), i64_ok (show -9223372036854775808 ≤ (i : Int) + 1 by omega) (by omega),
      decide_eq_true (show (0 : Int) ≤ ((i / 4 : Nat) : Int) by omega), decide_eq_true (show ((i / 4 : Nat) : Int) < (m : Int) by omega), decide_eq_true (show i / 4 < out.length by omega), decide_eq_true (show (0 : Int) ≤ ((s.size - 1 - i : Nat) : Int) by omega), decide_eq_true (show ((s.size - 1 - i : Nat) : Int) < (s.size : Int) by omega), decide_eq_false (show ¬ (((8 * (i % 4) : Nat) : Int) < 0) by omega),
      show inR .u32 (byteAt s (s.size - 1 - i)) = true by unfold inR; rw [Bool.and_eq_true, decide_eq_true_eq, decide_eq_true_eq]; exact ⟨hb.1, by have : IntKind.u32.max = 4294967295 := rfl; omega⟩] at hr
    refine .more (load_step hr) ?_
    have := load_loop s m hs hm d (i + 1) (load1 s i out) (by omega) (by unfold load1; rw [List.length_set]; exact hl)
    rw [show ((i + 1 : Nat) : Int) = (i : Int) + 1 by omega] at this
    exact this
theorem load_l0 (s : ByteArray) (hs : s.size ≤ 140737488355328) : ∀ (d k i : Nat) (out : List Int), i + d = s.size → d < k → out.length = (s.size + 3) / 4 → bigint_load.l0 k s out s.size i = some (loadTo s d i out)
  | 0, k, i, out, hi, hk, hl => by
    obtain ⟨k, rfl⟩ : ∃ m, k = m + 1 := ⟨k - 1, by omega⟩
    rw [bigint_load.l0, if_neg (by omega)]
    rfl
  | d + 1, k, i, out, hi, hk, hl => by
    obtain ⟨k, rfl⟩ : ∃ m, k = m + 1 := ⟨k - 1, by omega⟩
    rw [bigint_load.l0, ld2, ld3, ld4 i (by omega), ld1 s.size i (by omega) (by omega), ld5, ld6 i (by omega)]
    rw [if_pos (by omega), if_pos (by omega), if_pos (by omega), if_pos (by omega), if_pos (by omega), if_pos (by omega)]
    have hb := byteAt_bt s (s.size - 1 - i) (by omega)
    have hb2 := byteAt_lt s (s.size - 1 - i)
    rw [← hb, show byteAt s (s.size - 1 - i) % 4294967296 = byteAt s (s.size - 1 - i) by omega]
    have hst : out.set (((i / 4 : Nat) : Int)).toNat (Go.bits .or .u32 (rd out ((i / 4 : Nat) : Int)) (shl .u32 (byteAt s (s.size - 1 - i)) ((8 * (i % 4) : Nat) : Int))) = load1 s i out := by
      unfold load1 shl rd
      rw [Int.toNat_natCast, Int.toNat_natCast]
      rfl
    rw [hst]
    exact load_l0 s hs d k (i + 1) _ (by omega) (by omega) (by unfold load1; rw [List.length_set]; exact hl)
theorem loadTo_spec (s : ByteArray) (hs : s.size ≤ 140737488355328) : ∃ r, loadTo s s.size 0 (List.replicate ((s.size + 3) / 4) 0) = r ∧ okL r ∧ r.length = (s.size + 3) / 4 ∧ vL r = vS s := by
  obtain ⟨r, h1, h2, h3, h4⟩ := load_l s hs s.size (s.size + 1) 0 (List.replicate ((s.size + 3) / 4) 0) (by omega) (by omega) (okL_replicate _) (by simp) (by
    rw [vL_replicate, Nat.sub_zero, List.drop_of_length_le (by rw [len_data]; exact Nat.le_refl _)]; rfl)
  have := load_l0 s hs s.size (s.size + 1) 0 (List.replicate ((s.size + 3) / 4) 0) (by omega) (by omega) (by simp)
  rw [this] at h1
  cases h1
  exact ⟨_, rfl, h2, h3, h4⟩
def loadOk (s : ByteArray) (m : Nat) (n : Int) (zs : List Int) : Bool := decide (n = s.size) && decide (s.size ≤ 140737488355328) && decide (m = (s.size + 3) / 4) && decide (zs.length = m)
def loadL (T : List AV) (H : Hp) : Option (Bool × Ex × List AV × Hp) :=
  match lget T 0, lget T 3, lget T 15, lget T 16, H with
  | .val (.string s), .sl false 47 0 0 m, .val (.int .i64 n), .val (.int .i64 0), [.row (.ints .u32 zs) 47 .live] => bif T.length == 41 then some (loadOk s m n zs, .exit 0, shLoad s m s.size s.size, hpLoad (loadTo s s.size 0 zs)) else none
  | _, _, _, _, _ => none
theorem loadL_ok (T : List AV) (H : Hp) (e : Ex) (T' : List AV) (H' : Hp) (h : loadL T H = some (true, e, T', H')) : V.Ends Try.prog false 0 0 (.loop (lb 25 pLoad)) T H e T' H' := by
  unfold loadL at h
  split at h
  · rename_i s m n zs h0 h3 h15 h16
    rw [Bool.cond_eq_ite] at h
    split at h
    · rename_i hlen
      rw [beq_iff_eq] at hlen
      simp only [Option.some.injEq, Prod.mk.injEq] at h
      obtain ⟨hok, rfl, rfl, rfl⟩ := h
      unfold loadOk at hok
      simp only [Bool.and_eq_true, decide_eq_true_eq] at hok
      obtain ⟨⟨⟨rfl, k2⟩, k3⟩, k4⟩ := hok
      refine Ends.pre (load_loop s m k2 k3 s.size 0 zs (by omega) k4).ends (fun α B w D ys hr => slots_rel hlen (fun p hp y hy => ?_) hr)
      simp only [List.mem_cons, List.not_mem_nil, or_false] at hp
      rcases hp with rfl | rfl | rfl | rfl
      · rw [h0] at hy; exact hy
      · rw [h3] at hy; exact hy
      · rw [h15] at hy; exact hy
      · rw [h16] at hy; exact hy
    · cases h
  · cases h
def stripG (σ : ByteArray → ByteArray) (args : List AV) : Option (Bool × AV) := match args with | [.val (.string s)] => some (true, .val (.string (σ s))) | _ => none
def ELl (σ : ByteArray → ByteArray) : Env := ⟨addC 29 (stripG σ) noC, fun _ => false, addL 25 pLoad [0, 3, 15, 16] loadL noL⟩
theorem ELl_C : Meets Try.prog (ELl fun s => magOf (vS s)).C := (meets_none _).add strip_entry
theorem ELl_ok (σ : ByteArray → ByteArray) : LoopsOk Try.prog (ELl σ) := (LOk.none.add2 load_body loadL_ok).ok
theorem load_call (σ : ByteArray → ByteArray) (s : ByteArray) : callA Try.prog (ELl σ) 10 10 25 [.val (.string s)] =
    (bif inR .i64 (((σ s).size : Int) + 4) then bif inR .i64 (((σ s).size : Int) + 4 - 1) then bif inR .i64 ((((σ s).size : Int) + 4 - 1).tdiv 4) then
      bif decide (0 ≤ (((σ s).size : Int) + 4 - 1).tdiv 4) && decide ((((σ s).size : Int) + 4 - 1).tdiv 4 ≤ (((σ s).size : Int) + 4 - 1).tdiv 4) && decide ((4 : Int) * (((σ s).size : Int) + 4 - 1).tdiv 4 ≤ 281474976710656) && decide ((((σ s).size : Int) + 4 - 1).tdiv 4 ≤ 9223372036854775807) then
      bif loadOk (σ s) ((((σ s).size : Int) + 4 - 1).tdiv 4).toNat ((σ s).size : Int) (List.replicate ((((σ s).size : Int) + 4 - 1).tdiv 4).toNat 0) then
      bif decide (0 + ((((σ s).size : Int) + 4 - 1).tdiv 4).toNat * 1 ≤ (loadTo (σ s) (σ s).size 0 (List.replicate ((((σ s).size : Int) + 4 - 1).tdiv 4).toNat 0)).length) then
      some (.lst false 47 ((((σ s).size : Int) + 4 - 1).tdiv 4).toNat (lim (loadTo (σ s) (σ s).size 0 (List.replicate ((((σ s).size : Int) + 4 - 1).tdiv 4).toNat 0))))
      else none else none else none else none else none else none) := by kernel_rfl
theorem canon_load (n : Nat) {r : List Int} (h2 : okL r) (h3 : r.length = ((magOf n).size + 3) / 4) (h4 : vL r = n) : r = toL n := by
  rw [← h4]
  apply eq_toL h2
  intro hne
  rw [h4, h3]
  have hpos : 0 < (magOf n).size := by
    rcases Nat.eq_zero_or_pos (magOf n).size with h | h
    · rw [h] at h3; exact absurd (List.length_eq_zero_iff.1 h3) hne
    · exact h
  have h5 : 256 ^ ((magOf n).size - 1) ≤ n := by rw [size_magOf] at hpos ⊢; exact le_of_len_toB (by omega)
  refine Nat.le_trans ?_ h5
  rw [show (4294967296 : Nat) = 256 ^ 4 from rfl, ← Nat.pow_mul]
  exact Nat.pow_le_pow_right (by decide) (by omega)
def loadC (args : List AV) : Option (Bool × AV) := match args with | [.val (.string s)] => some (decide (s.size ≤ 140737488355328), encL (vS s)) | _ => none
theorem load_entry : Entry Try.prog 25 loadC := by
  refine entry_to (E := ELl fun s => magOf (vS s)) (u := 10) (d := 10) ELl_C (ELl_ok _) (by kernel_rfl) (fun args r h => ?_)
  unfold loadC at h
  split at h
  · rename_i s
    simp only [Option.some.injEq, Prod.mk.injEq, decide_eq_true_eq] at h
    obtain ⟨hs, rfl⟩ := h
    have hcall := load_call (fun s => magOf (vS s)) s
    have hsz : (magOf (vS s)).size ≤ s.size := size_magOf_le (vS_lt s)
    obtain ⟨r, h1, h2, h3, h4⟩ := loadTo_spec (magOf (vS s)) (by omega)
    rw [vS_magOf] at h4
    have hc := canon_load (vS s) h2 h3 h4
    generalize magOf (vS s) = t at *
    have hq : ((t.size : Int) + 4 - 1).tdiv 4 = (((t.size + 3) / 4 : Nat) : Int) := by
      rw [show (t.size : Int) + 4 - 1 = ((t.size + 3 : Nat) : Int) by omega]
      rw [Int.tdiv_eq_ediv_of_nonneg (by omega)]
      rfl
    rw [hq, Int.toNat_natCast, h1] at hcall
    have hok : loadOk t ((t.size + 3) / 4) (t.size : Int) (List.replicate ((t.size + 3) / 4) 0) = true := by
      unfold loadOk
      simp only [decide_true, List.length_replicate, Bool.and_true, Bool.true_and]
      exact decide_eq_true (by omega)
    rw [hok, i64_ok (show -9223372036854775808 ≤ (t.size : Int) + 4 by omega) (by omega), i64_ok (show -9223372036854775808 ≤ (t.size : Int) + 4 - 1 by omega) (by omega), i64_ok (show -9223372036854775808 ≤ (((t.size + 3) / 4 : Nat) : Int) by omega) (by omega),
      decide_eq_true (show (0 : Int) ≤ (((t.size + 3) / 4 : Nat) : Int) by omega), decide_eq_true (show (((t.size + 3) / 4 : Nat) : Int) ≤ (((t.size + 3) / 4 : Nat) : Int) by omega), decide_eq_true (show (4 : Int) * (((t.size + 3) / 4 : Nat) : Int) ≤ 281474976710656 by omega), decide_eq_true (show (((t.size + 3) / 4 : Nat) : Int) ≤ 9223372036854775807 by omega),
      decide_eq_true (show 0 + (t.size + 3) / 4 * 1 ≤ r.length by omega)] at hcall
    refine ⟨_, _, hcall, fun B w ys hr => hr, fun B w y hr => ?_⟩
    unfold encL
    rw [← hc, h3]
    exact hr
  · cases h
end
end Go.Proofs.Ytndpfegbbpoopaa.L
namespace Go.Proofs.Ytndpfegbbpoopaa.L
open Go Go.V Go.RowKit Go.Proofs.Ytndpfegbbpoopaa.Sp Go.Proofs.Ytndpfegbbpoopaa.F Go.Proofs.YtndpfegbbpoopaaW.PrintWords
open Go.Proofs (Try.prog)
noncomputable section
abbrev pStore : List Bool := [false, true, false, true, true]
def shStore (zs : List Int) (m l : Nat) (i : Int) : List AV := slots 41 [(0, .lst false 47 m (lim zs)), (3, .sl false 5 0 0 l), (4, .val (.int .i64 i))]
def shStore0 (zs : List Int) (m : Nat) (i : Int) : List AV := slots 41 [(0, .lst false 47 m (lim zs)), (3, .val (.slice none 0 0)), (4, .val (.int .i64 i))]
def hpStore (bs : List Int) : Hp := [.row (.ints .u8 bs) 5 .live]
def bytes4 (z : Int) : List Int := [IntKind.u8.wrap (z.fdiv (2 ^ min (Int.toNat 24) IntKind.u32.bits)), IntKind.u8.wrap (z.fdiv (2 ^ min (Int.toNat 16) IntKind.u32.bits)), IntKind.u8.wrap (z.fdiv (2 ^ min (Int.toNat 8) IntKind.u32.bits)), IntKind.u8.wrap z]
theorem store_body : subC Try.prog 40 pStore = some (.loop (lb 40 pStore)) := by kernel_rfl
theorem store_code : subC Try.prog 40 (false :: pStore) = some (lb 40 pStore) := by kernel_rfl
theorem store_round (zs : List Int) (m l : Nat) (i : Int) (bs : List Int) : roundA Try.prog EL0 40 [0, 3, 4] (lb 40 pStore) (false :: pStore) (shStore zs m l i) (hpStore bs) =
    (bif decide (0 ≤ i) then bif decide (0 ≤ i) && decide (i < m) then bif decide (0 ≤ i) && decide (i < m) then bif decide (0 ≤ i) && decide (i < m) then bif decide (0 ≤ i) && decide (i < m) then
      bif decide (l * 1 ≤ bs.length) && roomA Try.prog (l + 4) 5 && true then bif inR .i64 (i - 1) then some (.normal, shStore zs m (l + 4) (i - 1), hpStore (bs.take (l * 1) ++ bytes4 (zs.getD i.toNat 0)))
      else none else none else none else none else none else none else some (.exit 0, shStore zs m l i, hpStore bs)) := by kernel_rfl
theorem store_round0 (zs : List Int) (m : Nat) (i : Int) : roundA Try.prog EL0 40 [0, 3, 4] (lb 40 pStore) (false :: pStore) (shStore0 zs m i) [] =
    (bif decide (0 ≤ i) then bif decide (0 ≤ i) && decide (i < m) then bif decide (0 ≤ i) && decide (i < m) then bif decide (0 ≤ i) && decide (i < m) then bif decide (0 ≤ i) && decide (i < m) then
      bif inR .i64 (i - 1) then some (.normal, shStore zs m 4 (i - 1), hpStore (bytes4 (zs.getD i.toNat 0)))
      else none else none else none else none else none else some (.exit 0, shStore0 zs m i, [])) := by kernel_rfl
theorem store_step {zs : List Int} {m l : Nat} {i : Int} {bs : List Int} {e : Ex} {T : List AV} {H : Hp} (h : roundA Try.prog EL0 40 [0, 3, 4] (lb 40 pStore) (false :: pStore) (shStore zs m l i) (hpStore bs) = some (e, T, H)) : V.Ends Try.prog false 0 0 (lb 40 pStore) (shStore zs m l i) (hpStore bs) e T H :=
  round_ends (meets_none _) loops_none mixed store_code h
theorem store_step0 {zs : List Int} {m : Nat} {i : Int} {e : Ex} {T : List AV} {H : Hp} (h : roundA Try.prog EL0 40 [0, 3, 4] (lb 40 pStore) (false :: pStore) (shStore0 zs m i) [] = some (e, T, H)) : V.Ends Try.prog false 0 0 (lb 40 pStore) (shStore0 zs m i) [] e T H :=
  round_ends (meets_none _) loops_none mixed store_code h
def storeTo (zs : List Int) : Nat → List Int → List Int
  | 0, bs => bs
  | d + 1, bs => storeTo zs d (bs ++ bytes4 (zs.getD d 0))
theorem storeTo_len (zs : List Int) : ∀ d bs, (storeTo zs d bs).length = bs.length + 4 * d
  | 0, bs => rfl
  | d + 1, bs => by unfold storeTo; rw [storeTo_len zs d, List.length_append]; simp [bytes4]; omega
theorem room5 (n : Nat) (h : n ≤ 140737488355328) : roomA Try.prog n 5 = true := by
  unfold roomA
  rw [Bool.and_eq_true, decide_eq_true_eq, decide_eq_true_eq, show Try.prog.bytesOf 5 = 1 by kernel_rfl]
  omega
theorem store_loop (zs : List Int) (m : Nat) (hm : m ≤ 17592186044416) : ∀ (d : Nat) (bs : List Int), d ≤ m → bs.length + 4 * d ≤ 140737488355328 → LoopTo Try.prog (lb 40 pStore) (shStore zs m bs.length ((d : Int) - 1)) (hpStore bs) (.exit 0) (shStore zs m (bs.length + 4 * d) (-1)) (hpStore (storeTo zs d bs))
  | 0, bs, hd, hl => .last (store_step (by rw [store_round]; rfl)) (by intro h; cases h)
  | d + 1, bs, hd, hl => by
    have hr := store_round zs m bs.length (d : Int) bs
    rw [decide_eq_true (show (0 : Int) ≤ (d : Int) by omega), decide_eq_true (show (d : Int) < (m : Int) by omega), i64_ok (show -9223372036854775808 ≤ (d : Int) - 1 by omega) (by omega), decide_eq_true (show bs.length * 1 ≤ bs.length by omega), room5 _ (by omega), Nat.mul_one, List.take_length, Int.toNat_natCast] at hr
    rw [show (((d + 1 : Nat) : Int) - 1) = (d : Int) by omega]
    have := store_loop zs m hm d (bs ++ bytes4 (zs.getD d 0)) (by omega) (by rw [List.length_append]; simp [bytes4]; omega)
    rw [List.length_append, show (bytes4 (zs.getD d 0)).length = 4 from rfl, show bs.length + 4 + 4 * d = bs.length + 4 * (d + 1) by omega] at this
    exact .more (store_step hr) this
def storeOk (w : Bool) (m : Nat) (f : Nat → Nat → AV) (i : Int) : Bool := okB m f && decide (i = (m : Int) - 1) && decide (m ≤ 17592186044416) && (decide (m = 0) == w)
def storeL (w : Bool) (T : List AV) (H : Hp) : Option (Bool × Ex × List AV × Hp) :=
  match lget T 0, lget T 3, lget T 4, H with
  | .lst false 47 m f, .val (.slice none 0 0), .val (.int .i64 i), [] => bif T.length == 41 then some (storeOk w m f i, .exit 0, bif w then shStore0 (rowOf m f) m (-1) else shStore (rowOf m f) m (4 * m) (-1), bif w then [] else hpStore (storeTo (rowOf m f) m [])) else none
  | _, _, _, _ => none
theorem storeL_ok (w : Bool) (T : List AV) (H : Hp) (e : Ex) (T' : List AV) (H' : Hp) (h : storeL w T H = some (true, e, T', H')) : V.Ends Try.prog false 0 0 (.loop (lb 40 pStore)) T H e T' H' := by
  unfold storeL at h
  split at h
  · rename_i m f i h0 h3 h4
    rw [Bool.cond_eq_ite] at h
    split at h
    · rename_i hlen
      rw [beq_iff_eq] at hlen
      simp only [Option.some.injEq, Prod.mk.injEq] at h
      obtain ⟨hok, rfl, rfl, rfl⟩ := h
      unfold storeOk at hok
      simp only [Bool.and_eq_true, decide_eq_true_eq] at hok
      obtain ⟨⟨⟨k1, rfl⟩, k3⟩, k4⟩ := hok
      have hl : V.Ends Try.prog false 0 0 (.loop (lb 40 pStore)) (shStore0 (rowOf m f) m ((m : Int) - 1)) [] (.exit 0) (bif w then shStore0 (rowOf m f) m (-1) else shStore (rowOf m f) m (4 * m) (-1)) (bif w then [] else hpStore (storeTo (rowOf m f) m [])) := by
        generalize rowOf m f = zs
        cases w with
        | true =>
          have hm : m = 0 := by simpa using k4
          subst hm
          exact (LoopTo.last (store_step0 (by rw [store_round0]; rfl)) (by intro h; cases h)).ends
        | false =>
          have hm : m ≠ 0 := by simpa using k4
          obtain ⟨d, rfl⟩ : ∃ d, m = d + 1 := ⟨m - 1, by omega⟩
          have hr := store_round0 zs (d + 1) (d : Int)
          rw [decide_eq_true (show (0 : Int) ≤ (d : Int) by omega), decide_eq_true (show (d : Int) < ((d + 1 : Nat) : Int) by omega), i64_ok (show -9223372036854775808 ≤ (d : Int) - 1 by omega) (by omega), Int.toNat_natCast] at hr
          rw [show (((d + 1 : Nat) : Int) - 1) = (d : Int) by omega]
          have := store_loop zs (d + 1) k3 d (bytes4 (zs.getD d 0)) (by omega) (by simp [bytes4]; omega)
          rw [show (bytes4 (zs.getD d 0)).length = 4 from rfl, show 4 + 4 * d = 4 * (d + 1) by omega] at this
          exact (LoopTo.more (store_step0 hr) this).ends
      refine Ends.pre hl (fun α B w D ys hr => slots_rel hlen (fun p hp y hy => ?_) hr)
      simp only [List.mem_cons, List.not_mem_nil, or_false] at hp
      rcases hp with rfl | rfl | rfl
      · rw [h0] at hy; exact row_norm cells47 k1 hy
      · rw [h3] at hy; exact hy
      · rw [h4] at hy; exact hy
    · cases h
  · cases h
def ELs (w : Bool) (σ : ByteArray → ByteArray) : Env := ⟨addC 29 (stripG σ) noC, fun _ => false, addL 40 pStore [0, 3, 4] (storeL w) noL⟩
theorem ELs_C (w : Bool) : Meets Try.prog (ELs w fun s => magOf (vS s)).C := (meets_none _).add strip_entry
theorem ELs_ok (w : Bool) (σ : ByteArray → ByteArray) : LoopsOk Try.prog (ELs w σ) := (LOk.none.add2 store_body (storeL_ok w)).ok
theorem store_call0 (σ : ByteArray → ByteArray) (zs : List Int) (m : Nat) : callA Try.prog (ELs true σ) 10 10 40 [.lst false 47 m (lim zs)] =
    (bif inR .i64 ((m : Int) - 1) then bif storeOk true m (lim zs) ((m : Int) - 1) then some (.val (.string (σ (ofBytes [])))) else none else none) := by kernel_rfl
theorem store_call1 (σ : ByteArray → ByteArray) (zs : List Int) (m : Nat) : callA Try.prog (ELs false σ) 10 10 40 [.lst false 47 m (lim zs)] =
    (bif inR .i64 ((m : Int) - 1) then bif storeOk false m (lim zs) ((m : Int) - 1) then bif decide (0 + 4 * m * 1 ≤ (storeTo (rowOf m (lim zs)) m []).length) then some (.val (.string (σ (ofBytes ((storeTo (rowOf m (lim zs)) m []).take (4 * m * 1)))))) else none else none else none) := by kernel_rfl
theorem u8_wrap (z : Int) : IntKind.u8.wrap z = z % 256 := by
  unfold IntKind.wrap
  simp [IntKind.bits, IntKind.signed]
theorem bytes4_val {z : Int} (h0 : 0 ≤ z) (h1 : z < 4294967296) : vB ((bytes4 z).map fun z => UInt8.ofNat z.toNat) = z.toNat := by
  obtain ⟨n, rfl⟩ := Int.eq_ofNat_of_zero_le h0
  have hd : ∀ k : Nat, (UInt8.ofNat (IntKind.u8.wrap (((n : Int)).fdiv ((k : Nat) : Int))).toNat).toNat = n / k % 256 := by
    intro k
    rw [u8_wrap, Int.fdiv_eq_ediv_of_nonneg _ (by omega), ← Int.natCast_ediv, UInt8.toNat_ofNat']
    omega
  have h3 := hd 16777216
  have h2 := hd 65536
  have h1' := hd 256
  have h0' : (UInt8.ofNat (IntKind.u8.wrap (n : Int)).toNat).toNat = n % 256 := by
    rw [u8_wrap, UInt8.toNat_ofNat']
    omega
  have e : (bytes4 (n : Int)) = [IntKind.u8.wrap ((n : Int).fdiv ((16777216 : Nat) : Int)), IntKind.u8.wrap ((n : Int).fdiv ((65536 : Nat) : Int)), IntKind.u8.wrap ((n : Int).fdiv ((256 : Nat) : Int)), IntKind.u8.wrap (n : Int)] := rfl
  rw [e]
  simp only [List.map_cons, List.map_nil, vB_cons, vB_nil, List.length_cons, List.length_nil, h3, h2, h1', h0', Int.toNat_natCast]
  omega
theorem store_val {zs : List Int} (hok : okL zs) : ∀ (d : Nat) (bs : List Int), d ≤ zs.length → vB ((storeTo zs d bs).map fun z => UInt8.ofNat z.toNat) = vB (bs.map fun z => UInt8.ofNat z.toNat) * 4294967296 ^ d + vL (zs.take d)
  | 0, bs, _ => by simp [storeTo, vL_nil]
  | d + 1, bs, hd => by
    have hlt : d < zs.length := hd
    have hg : zs.getD d 0 = zs[d] := by rw [List.getD_eq_getElem?_getD, List.getElem?_eq_getElem hlt]; rfl
    have ht : zs.take (d + 1) = zs.take d ++ [zs[d]] := by rw [List.take_add_one, List.getElem?_eq_getElem hlt]; rfl
    have h0 := hok _ (List.getElem_mem hlt)
    unfold storeTo
    rw [store_val hok d _ (by omega), List.map_append, vB_append, hg, bytes4_val h0.1 h0.2, List.length_map, show (bytes4 zs[d]).length = 4 from rfl, ht, vL_append, List.length_take, Nat.min_eq_left (by omega), vL_cons, vL_nil, show (256 : Nat) ^ 4 = 4294967296 from rfl, Nat.pow_succ]
    simp only [Nat.mul_zero, Nat.add_zero, Nat.add_mul, Nat.mul_assoc, Nat.mul_comm (4294967296 ^ d)]
    rw [Nat.mul_comm 4294967296 (4294967296 ^ d)]
    omega
def storeC (args : List AV) : Option (Bool × AV) := match args with | [.lst _ 47 m f] => some (okB m f && decide (m ≤ 17592186044416), .val (.string (magOf (vL (rowOf m f))))) | _ => none
theorem vS_ofBytes (l : List Int) : vS (ofBytes l) = vB (l.map fun z => UInt8.ofNat z.toNat) := rfl
theorem store_entry : Entry Try.prog 40 storeC := by
  intro args r h
  unfold storeC at h
  split at h
  · rename_i fl m f
    simp only [Option.some.injEq, Prod.mk.injEq, Bool.and_eq_true, decide_eq_true_eq] at h
    obtain ⟨⟨hok, hm⟩, rfl⟩ := h
    have hl := rowOf_len m f
    have hok2 := (okB_iff m f).1 hok
    have hrow : rowOf m (lim (rowOf m f)) = rowOf m f := by rw [rowOf_lim _ (by omega), List.take_of_length_le (by omega)]
    have hokr : okB m (lim (rowOf m f)) = true := by rw [okB_iff, hrow]; exact hok2
    have key : ∃ w, callA Try.prog (ELs w fun s => magOf (vS s)) 10 10 40 [.lst false 47 m (lim (rowOf m f))] = some (.val (.string (magOf (vL (rowOf m f))))) := by
      by_cases h0 : m = 0
      · refine ⟨true, ?_⟩
        have hcall := store_call0 (fun s => magOf (vS s)) (rowOf m f) m
        have hk : storeOk true m (lim (rowOf m f)) ((m : Int) - 1) = true := by
          unfold storeOk
          rw [hokr, decide_eq_true hm, decide_eq_true h0]
          simp
        rw [hk, i64_ok (by omega) (by omega)] at hcall
        rw [hcall]
        have : rowOf m f = [] := List.length_eq_zero_iff.1 (by omega)
        rw [this]
        rfl
      · refine ⟨false, ?_⟩
        have hcall := store_call1 (fun s => magOf (vS s)) (rowOf m f) m
        have hk : storeOk false m (lim (rowOf m f)) ((m : Int) - 1) = true := by
          unfold storeOk
          rw [hokr, decide_eq_true hm, decide_eq_false h0]
          simp
        have hlen := storeTo_len (rowOf m f) m []
        rw [List.length_nil, Nat.zero_add] at hlen
        rw [hk, hrow, i64_ok (by omega) (by omega), decide_eq_true (show 0 + 4 * m * 1 ≤ (storeTo (rowOf m f) m []).length by omega), List.take_of_length_le (show (storeTo (rowOf m f) m []).length ≤ 4 * m * 1 by omega)] at hcall
        rw [hcall]
        have hv := store_val hok2 m [] (by omega)
        rw [List.take_of_length_le (by omega), List.map_nil, vB_nil, Nat.zero_mul, Nat.zero_add] at hv
        show some (AV.val (.string (magOf (vS (ofBytes (storeTo (rowOf m f) m [])))))) = _
        rw [vS_ofBytes, hv]
    obtain ⟨w, hw⟩ := key
    intro B wd xs hB hx
    refine callA_sound (ELs_C w) (ELs_ok w _) mixed (by kernel_rfl) hw B wd xs hB ?_
    obtain ⟨y, zs, hxs, q1, q2⟩ := hx
    rw [hxs]
    exact ⟨y, zs, rfl, lst_flag (row_norm cells47 hok q1), q2⟩
  · cases h
end
end Go.Proofs.Ytndpfegbbpoopaa.L
namespace Go.Proofs.Ytndpfegbbpoopaa.L
open Go Go.V Go.RowKit Go.Proofs.Ytndpfegbbpoopaa.Sp Go.Proofs.Ytndpfegbbpoopaa.F Go.Proofs.YtndpfegbbpoopaaW.PrintWords
open Go.Proofs (Try.prog)
noncomputable section
abbrev RowF := Nat → (Nat → Nat → AV) → Nat → Nat → AV
def rowG (c : Nat → (Nat → Nat → AV) → Bool) (ν : Nat → (Nat → Nat → AV) → Nat) (φ : RowF) (args : List AV) : Option (Bool × AV) := match args with | [.lst fl 47 m f] => some (c m f, .lst false 47 (ν m f) (φ m f)) | _ => none
def strG (c : Nat → (Nat → Nat → AV) → Bool) (σ : Nat → (Nat → Nat → AV) → ByteArray) (args : List AV) : Option (Bool × AV) := match args with | [.lst _ 47 m f] => some (c m f, .val (.string (σ m f))) | _ => none
def trimCc (m : Nat) (f : Nat → Nat → AV) : Bool := okB m f && decide (m ≤ 140737488355328)
def trimNu (m : Nat) (f : Nat → Nat → AV) : Nat := (toL (vL (rowOf m f))).length
def trimPhi : RowF := fun m f => lim (toL (vL (rowOf m f)))
def storeCc (m : Nat) (f : Nat → Nat → AV) : Bool := okB m f && decide (m ≤ 17592186044416)
def storeSg (m : Nat) (f : Nat → Nat → AV) : ByteArray := magOf (vL (rowOf m f))
def ELp (c1 : Nat → (Nat → Nat → AV) → Bool) (ν : Nat → (Nat → Nat → AV) → Nat) (φ : RowF) (c2 : Nat → (Nat → Nat → AV) → Bool) (σ : Nat → (Nat → Nat → AV) → ByteArray) : Env := ⟨addC 39 (rowG c1 ν φ) (addC 40 (strG c2 σ) noC), fun _ => false, noL⟩
theorem ELp_C : Meets Try.prog (ELp trimCc trimNu trimPhi storeCc storeSg).C := ((meets_none _).add store_entry).add trim_entry
theorem pack_call (c1 : Nat → (Nat → Nat → AV) → Bool) (ν : Nat → (Nat → Nat → AV) → Nat) (φ : RowF) (c2 : Nat → (Nat → Nat → AV) → Bool) (σ : Nat → (Nat → Nat → AV) → ByteArray) (b : Bool) (fl : Bool) (m : Nat) (f : Nat → Nat → AV) : callA Try.prog (ELp c1 ν φ c2 σ) 10 10 22 [.val (.bool b), .lst fl 47 m f] =
    (bif c1 m f then bif c2 (ν m f) (φ m f) then bif b then some (.agg [.val (.bool (!strEq (σ (ν m f) (φ m f)) ⟨#[]⟩)), .val (.string (σ (ν m f) (φ m f)))]) else some (.agg [.val (.bool false), .val (.string (σ (ν m f) (φ m f)))]) else none else none) := by kernel_rfl
theorem magOf_nil (n : Nat) : strEq (magOf n) ⟨#[]⟩ = decide (n = 0) := by
  rw [strEq_nil]
  by_cases h : n = 0
  · subst h
    rw [decide_eq_true ((toList_nil _).2 (by rw [magOf_data]; exact toB_zero))]
    rfl
  · rw [decide_eq_false h, decide_eq_false]
    intro e
    rw [toList_nil] at e
    have := vS_magOf n
    unfold vS at this
    rw [e, vB_nil] at this
    exact h this.symm
def encA (z : Int) : AV := .agg [.val (.bool (enc z).1), .val (.string (enc z).2)]
def packC (args : List AV) : Option (Bool × AV) := match args with | [.val (.bool b), .lst _ 47 m f] => some (okB m f && decide (m ≤ 17592186044416), encA (if b = true then -(vL (rowOf m f) : Int) else (vL (rowOf m f) : Int))) | _ => none
theorem pack_entry : Entry Try.prog 22 packC := by
  refine entry_to (E := ELp trimCc trimNu trimPhi storeCc storeSg) (u := 10) (d := 10) ELp_C loops_none (by kernel_rfl) (fun args r h => ?_)
  unfold packC at h
  split at h
  · rename_i b fl m f
    simp only [Option.some.injEq, Prod.mk.injEq, Bool.and_eq_true, decide_eq_true_eq] at h
    obtain ⟨⟨hok, hm⟩, rfl⟩ := h
    have hcall := pack_call trimCc trimNu trimPhi storeCc storeSg b fl m f
    have hok2 := (okB_iff m f).1 hok
    have hlen : (toL (vL (rowOf m f))).length ≤ m := by
      have := len_toL_le (vL_lt hok2)
      rwa [rowOf_len] at this
    have k1 : trimCc m f = true := by unfold trimCc; rw [hok, decide_eq_true (show m ≤ 140737488355328 by omega)]; rfl
    have k2 : storeCc (trimNu m f) (trimPhi m f) = true := by unfold storeCc trimNu trimPhi; rw [okB_enc, decide_eq_true (show (toL (vL (rowOf m f))).length ≤ 17592186044416 by omega)]; rfl
    have k3 : storeSg (trimNu m f) (trimPhi m f) = magOf (vL (rowOf m f)) := by unfold storeSg trimNu trimPhi; rw [rowOf_enc, vL_toL]
    rw [k1, k2, k3, magOf_nil] at hcall
    generalize vL (rowOf m f) = n at *
    have he := enc_pack b n
    refine ⟨_, encA (if b = true then -(n : Int) else (n : Int)), ?_, fun B w ys hr => hr, fun B w y hr => hr⟩
    rw [hcall]
    unfold encA
    rw [← he]
    cases b with
    | true =>
      simp only [cond, Bool.true_and]
      by_cases h0 : n = 0 <;> simp [h0]
    | false => rfl
  · cases h
end
end Go.Proofs.Ytndpfegbbpoopaa.L
namespace Go.Proofs.Ytndpfegbbpoopaa.L
open Go Go.V Go.RowKit Go.Proofs.Ytndpfegbbpoopaa.Sp Go.Proofs.Ytndpfegbbpoopaa.F Go.Proofs.YtndpfegbbpoopaaW.PrintWords
open Go.Proofs (Try.prog)
noncomputable section
structure Sy where
  c47 : ByteArray → Bool
  n47 : ByteArray → Nat
  f47 : ByteArray → Nat → Nat → AV
  c48 : Bool → Nat → (Nat → Nat → AV) → Bool
  b48 : Bool → Nat → (Nat → Nat → AV) → Bool
  s48 : Bool → Nat → (Nat → Nat → AV) → ByteArray
  c50 : Nat → (Nat → Nat → AV) → Nat → (Nat → Nat → AV) → Bool
  k50 : Nat → (Nat → Nat → AV) → Nat → (Nat → Nat → AV) → Int
  s66 : ByteArray → ByteArray
def loadG (S : Sy) (args : List AV) : Option (Bool × AV) := match args with | [.val (.string s)] => some (S.c47 s, .lst false 47 (S.n47 s) (S.f47 s)) | _ => none
def packG (S : Sy) (args : List AV) : Option (Bool × AV) := match args with | [.val (.bool b), .lst _ 47 m f] => some (S.c48 b m f, .agg [.val (.bool (S.b48 b m f)), .val (.string (S.s48 b m f))]) | _ => none
def compareG (S : Sy) (args : List AV) : Option (Bool × AV) := match args with | [.lst _ 47 m f, .lst _ 47 n g] => some (S.c50 m f n g, .val (.int .i64 (S.k50 m f n g))) | _ => none
def sy : Sy where
  c47 s := decide (s.size ≤ 140737488355328)
  n47 s := (toL (vS s)).length
  f47 s := lim (toL (vS s))
  c48 _ m f := okB m f && decide (m ≤ 17592186044416)
  b48 b m f := (enc (if b = true then -(vL (rowOf m f) : Int) else (vL (rowOf m f) : Int))).1
  s48 b m f := (enc (if b = true then -(vL (rowOf m f) : Int) else (vL (rowOf m f) : Int))).2
  c50 m f n g := canB m f && canB n g && decide (m ≤ 140737488355328) && decide (n ≤ 140737488355328)
  k50 m f n g := cmpN (vL (rowOf m f)) (vL (rowOf n g))
  s66 s := magOf (vS s)
def CS (S : Sy) : FuncId → List AV → Option (Bool × AV) := addC 25 (loadG S) (addC 22 (packG S) (addC 28 (compareG S) (addC 29 (stripG S.s66) noC)))
theorem CS_ok : Meets Try.prog (CS sy) := ((((meets_none _).add strip_entry).add compare_entry).add pack_entry).add load_entry
def KS (g : FuncId) : Bool := g == 22 || g == 28 || g == 39 || g == 40
def ES (S : Sy) : Env := ⟨CS S, KS, noL⟩
theorem strEq_iff (s t : ByteArray) : strEq s t = decide (s = t) := by
  unfold strEq
  by_cases h : s = t
  · rw [decide_eq_true h, h]
    simp
  · rw [decide_eq_false h, ← Bool.not_eq_true, beq_iff_eq]
    exact fun e => h (bytes_ext e)
def chk (b : Bool) (s : ByteArray) : Int := if magOf (vS s) = s then (if b = true ∧ s.toList = [] then 1 else 0) else 1
end
end Go.Proofs.Ytndpfegbbpoopaa.L
namespace Go.Proofs.Ytndpfegbbpoopaa.L
open Go Go.V Go.RowKit Go.Proofs.Ytndpfegbbpoopaa.Sp Go.Proofs.Ytndpfegbbpoopaa.F Go.Proofs.YtndpfegbbpoopaaW.PrintWords
open Go.Proofs (Try.prog)
noncomputable section
def two (w : Int) : List Int := [IntKind.u32.wrap w, IntKind.u32.wrap (w.fdiv (2 ^ min (Int.toNat 32) IntKind.u64.bits))]
theorem of_call (S : Sy) (z : Int) : callA Try.prog (ES S) 10 10 15 [.val (.int .i64 z)] =
    (bif decide (z < 0) then bif S.c48 (decide (z < 0)) 2 (lim (two (IntKind.u64.wrap (0 - IntKind.u64.wrap z)))) then some (.agg [.val (.bool (S.b48 (decide (z < 0)) 2 (lim (two (IntKind.u64.wrap (0 - IntKind.u64.wrap z)))))), .val (.string (S.s48 (decide (z < 0)) 2 (lim (two (IntKind.u64.wrap (0 - IntKind.u64.wrap z))))))]) else none
     else bif S.c48 (decide (z < 0)) 2 (lim (two (IntKind.u64.wrap z))) then some (.agg [.val (.bool (S.b48 (decide (z < 0)) 2 (lim (two (IntKind.u64.wrap z))))), .val (.string (S.s48 (decide (z < 0)) 2 (lim (two (IntKind.u64.wrap z)))))]) else none) := by kernel_rfl
theorem two_val {n : Nat} (h : n < 18446744073709551616) : okL (two n) ∧ vL (two n) = n := by
  have e1 : IntKind.u32.wrap (n : Int) = ((n % 4294967296 : Nat) : Int) := by rw [IntKind.wrap_u32]; omega
  have e2 : IntKind.u32.wrap ((n : Int).fdiv (2 ^ min (Int.toNat 32) IntKind.u64.bits)) = ((n / 4294967296 : Nat) : Int) := by
    rw [show ((2 : Int) ^ min (Int.toNat 32) IntKind.u64.bits) = ((4294967296 : Nat) : Int) from rfl, Int.fdiv_eq_ediv_of_nonneg _ (by omega), ← Int.natCast_ediv, IntKind.wrap_u32]
    omega
  unfold two
  rw [e1, e2]
  refine ⟨fun x hx => ?_, ?_⟩
  · simp only [List.mem_cons, List.not_mem_nil, or_false] at hx
    rcases hx with rfl | rfl <;> omega
  · simp only [vL_cons, vL_nil, Int.toNat_natCast]
    omega
def ofC (args : List AV) : Option (Bool × AV) := match args with | [.val (.int .i64 z)] => some (decide (-9223372036854775808 ≤ z) && decide (z ≤ 9223372036854775807), encA z) | _ => none
theorem sy_two (b : Bool) (n : Nat) (h : n < 18446744073709551616) : sy.c48 b 2 (lim (two n)) = true ∧ AV.agg [.val (.bool (sy.b48 b 2 (lim (two n)))), .val (.string (sy.s48 b 2 (lim (two n))))] = encA (if b = true then -(n : Int) else (n : Int)) := by
  obtain ⟨h1, h2⟩ := two_val h
  have hr : rowOf 2 (lim (two n)) = two n := rowOf_lim (two n) (Nat.le_refl 2)
  constructor
  · show (okB 2 (lim (two n)) && decide (2 ≤ 17592186044416)) = true
    rw [(okB_iff _ _).2 (by rw [hr]; exact h1), decide_eq_true (by omega)]
    rfl
  · show AV.agg [.val (.bool (enc (if b = true then -(vL (rowOf 2 (lim (two n))) : Int) else (vL (rowOf 2 (lim (two n))) : Int))).1), .val (.string (enc (if b = true then -(vL (rowOf 2 (lim (two n))) : Int) else (vL (rowOf 2 (lim (two n))) : Int))).2)] = _
    rw [hr, h2]
    rfl
theorem of_entry : Entry Try.prog 15 ofC := by
  refine entry_to (E := ES sy) (u := 10) (d := 10) CS_ok loops_none (by kernel_rfl) (fun args r h => ?_)
  unfold ofC at h
  split at h
  · rename_i z
    simp only [Option.some.injEq, Prod.mk.injEq, Bool.and_eq_true, decide_eq_true_eq] at h
    obtain ⟨⟨h0, h1⟩, rfl⟩ := h
    have hcall := of_call sy z
    have key : callA Try.prog (ES sy) 10 10 15 [.val (.int .i64 z)] = some (encA z) := by
      rw [hcall]
      by_cases hz : z < 0
      · have e : IntKind.u64.wrap (0 - IntKind.u64.wrap z) = ((z.natAbs : Nat) : Int) := by rw [IntKind.wrap_u64, IntKind.wrap_u64]; omega
        obtain ⟨q1, q2⟩ := sy_two true z.natAbs (by omega)
        rw [decide_eq_true hz, e, q1, q2, if_pos rfl, show -((z.natAbs : Nat) : Int) = z by omega]
        rfl
      · have e : IntKind.u64.wrap z = ((z.natAbs : Nat) : Int) := by rw [IntKind.wrap_u64]; omega
        obtain ⟨q1, q2⟩ := sy_two false z.natAbs (by omega)
        rw [decide_eq_false hz, e, q1, q2, if_neg (by decide), show ((z.natAbs : Nat) : Int) = z by omega]
        rfl
    exact ⟨_, _, key, fun B w ys hr => hr, fun B w y hr => hr⟩
  · cases h
end
end Go.Proofs.Ytndpfegbbpoopaa.L
namespace Go.Proofs.Ytndpfegbbpoopaa.L
open Go Go.V Go.RowKit Go.Proofs.Ytndpfegbbpoopaa.Sp Go.Proofs.Ytndpfegbbpoopaa.F Go.Proofs.YtndpfegbbpoopaaW.PrintWords
open Go.Proofs (Try.prog)
noncomputable section
structure Sg where
  len : Nat → Nat
  row : Nat → Nat → Nat → AV
  num : Nat → (Nat → Nat → AV) → Nat
  okr : Nat → (Nat → Nat → AV) → Bool
  oks : Nat → (Nat → Nat → AV) → Bool
  can : Nat → (Nat → Nat → AV) → Bool
  vs : ByteArray → Nat
  mg : Nat → ByteArray
  ok : ByteArray → Bool
  sg : Bool → Nat → Int
  val : Bool → ByteArray → Int
  ng : Int → Bool
  ms : Int → ByteArray
  cmp : Nat → Nat → Int
  cmz : Int → Int → Int
  chk : Bool → ByteArray → Int
  bl : Nat → Nat
def Sg.lmb (S : Sg) (n : Nat) : AV := .lst false 47 (S.len n) (S.row n)
def Sg.int (S : Sg) (z : Int) : AV := .agg [.val (.bool (S.ng z)), .val (.string (S.ms z))]
def sg0 : Sg where
  len n := (toL n).length
  row n := lim (toL n)
  num m f := vL (rowOf m f)
  okr m f := okB m f && decide (m ≤ 17592186044416)
  oks m f := okB m f && decide (m ≤ 8796093022208)
  can m f := canB m f && decide (m ≤ 17592186044416)
  vs s := vS s
  mg n := magOf n
  ok s := decide (s.size ≤ 8796093022208)
  sg b n := if b = true then -(n : Int) else (n : Int)
  val b s := Sp.val b s
  ng z := (enc z).1
  ms z := (enc z).2
  cmp a b := cmpN a b
  cmz a b := cmpZ a b
  chk b s := L.chk b s
  bl n := blen n
theorem num_row (n : Nat) : sg0.num (sg0.len n) (sg0.row n) = n := by
  show vL (rowOf (toL n).length (lim (toL n))) = n
  rw [rowOf_enc, vL_toL]
def bs (n : Nat) : Nat := (toB n).length
theorem len_bs (n : Nat) : sg0.len n ≤ bs n := by
  show (toL n).length ≤ (toB n).length
  refine len_toL_le (Nat.lt_of_lt_of_le (lt_of_len_toB (Nat.le_refl _)) ?_)
  exact Nat.pow_le_pow_left (by decide) _
theorem okr_row {n : Nat} (h : bs n ≤ 17592186044416) : sg0.okr (sg0.len n) (sg0.row n) = true := by
  show (okB (toL n).length (lim (toL n)) && decide ((toL n).length ≤ 17592186044416)) = true
  have := len_bs n
  have h2 : (toL n).length ≤ 17592186044416 := Nat.le_trans this h
  rw [okB_enc, decide_eq_true h2]
  rfl
theorem oks_row {n : Nat} (h : bs n ≤ 8796093022208) : sg0.oks (sg0.len n) (sg0.row n) = true := by
  show (okB (toL n).length (lim (toL n)) && decide ((toL n).length ≤ 8796093022208)) = true
  have := len_bs n
  have h2 : (toL n).length ≤ 8796093022208 := Nat.le_trans this h
  rw [okB_enc, decide_eq_true h2]
  rfl
theorem size_ms (z : Int) : (sg0.ms z).size = bs z.natAbs := size_magOf _
theorem vs_val (b : Bool) (s : ByteArray) : sg0.vs s = (sg0.val b s).natAbs := (natAbs_val b s).symm
theorem sg_val (b : Bool) (s : ByteArray) : sg0.sg b (sg0.vs s) = sg0.val b s := rfl
theorem bs_vs (s : ByteArray) : bs (sg0.vs s) ≤ s.size := len_toB_le (vS_lt s)
theorem bs_val (b : Bool) (s : ByteArray) : bs (sg0.val b s).natAbs ≤ s.size := by rw [← vs_val]; exact bs_vs s
theorem bs_le {n m : Nat} (h : n < 256 ^ m) : bs n ≤ m := len_toB_le h
def tStrip (S : Sg) (args : List AV) : Option (Bool × AV) := match args with | [.val (.string s)] => some (true, .val (.string (S.mg (S.vs s)))) | _ => none
def tLoad (S : Sg) (args : List AV) : Option (Bool × AV) := match args with | [.val (.string s)] => some (S.ok s, S.lmb (S.vs s)) | _ => none
def tTrim (S : Sg) (args : List AV) : Option (Bool × AV) := match args with | [.lst _ 47 m f] => some (S.okr m f, S.lmb (S.num m f)) | _ => none
def tPack (S : Sg) (args : List AV) : Option (Bool × AV) := match args with | [.val (.bool b), .lst _ 47 m f] => some (S.okr m f, S.int (S.sg b (S.num m f))) | _ => none
def inI (z : Int) : Bool := decide (-9223372036854775808 ≤ z) && decide (z ≤ 9223372036854775807)
def tOf (S : Sg) (args : List AV) : Option (Bool × AV) := match args with | [.val (.int .i64 z)] => some (inI z, S.int z) | _ => none
theorem entry_less {g : FuncId} {f f' : List AV → Option (Bool × AV)} (h : Entry Try.prog g f) (hf : ∀ args r, f' args = some (true, r) → f args = some (true, r)) : Entry Try.prog g f' := fun args r hr => h args r (hf args r hr)
theorem eLoad : Entry Try.prog 25 (tLoad sg0) := entry_less load_entry fun args r h => by
  unfold tLoad at h
  split at h
  · simp only [Option.some.injEq, Prod.mk.injEq] at h
    obtain ⟨h1, rfl⟩ := h
    have h2 := of_decide_eq_true h1
    exact congrArg some (Prod.ext (show decide (_ ≤ 140737488355328) = true from decide_eq_true (Nat.le_trans h2 (by decide))) rfl)
  · cases h
theorem eTrim : Entry Try.prog 39 (tTrim sg0) := entry_less trim_entry fun args r h => by
  unfold tTrim at h
  split at h
  · simp only [Option.some.injEq, Prod.mk.injEq] at h
    obtain ⟨h1, rfl⟩ := h
    have h1 : (okB _ _ && decide (_ ≤ _)) = true := h1
    rw [Bool.and_eq_true, decide_eq_true_eq] at h1
    exact congrArg some (Prod.ext (show (okB _ _ && decide (_ ≤ 140737488355328)) = true by rw [h1.1, decide_eq_true (Nat.le_trans h1.2 (by decide))]; rfl) rfl)
  · cases h
theorem ePack : Entry Try.prog 22 (tPack sg0) := pack_entry
theorem eOf : Entry Try.prog 15 (tOf sg0) := of_entry
theorem dT {p : Prop} [Decidable p] (h : p) : decide p = true := decide_eq_true h
theorem dF {p : Prop} [Decidable p] (h : ¬ p) : decide p = false := decide_eq_false h
theorem i64T {z : Int} (h : -9223372036854775808 ≤ z ∧ z ≤ 9223372036854775807) : inR .i64 z = true := i64_ok h.1 h.2
theorem u64T {z : Int} (h : 0 ≤ z ∧ z ≤ 18446744073709551615) : inR .u64 z = true := by
  unfold inR; rw [Bool.and_eq_true, decide_eq_true_eq, decide_eq_true_eq]; exact h
theorem u32T {z : Int} (h : 0 ≤ z ∧ z ≤ 4294967295) : inR .u32 z = true := by
  unfold inR; rw [Bool.and_eq_true, decide_eq_true_eq, decide_eq_true_eq]; exact h
theorem u32w (n : Nat) : IntKind.u32.wrap (n : Int) = ((n % 4294967296 : Nat) : Int) := by rw [IntKind.wrap_u32]; omega
theorem u64w' (n : Nat) : IntKind.u64.wrap (n : Int) = ((n % 18446744073709551616 : Nat) : Int) := by rw [IntKind.wrap_u64]; omega
theorem fdivN (a b : Nat) : (a : Int).fdiv (b : Int) = ((a / b : Nat) : Int) := by rw [Int.fdiv_eq_ediv_of_nonneg _ (by omega)]; rfl
theorem fdiv32 (a : Nat) : (a : Int).fdiv (4294967296 : Int) = ((a / 4294967296 : Nat) : Int) := fdivN a 4294967296
theorem getD_limb {l : List Int} (h : okL l) (i : Nat) (hi : i < l.length) : ∃ a : Nat, a < 4294967296 ∧ l[i] = (a : Int) ∧ l.getD i 0 = (a : Int) := by
  obtain ⟨a, ha, he⟩ := limb_nat h i hi
  exact ⟨a, ha, he, by rw [List.getD_eq_getElem?_getD, List.getElem?_eq_getElem hi, Option.getD_some, he]⟩
theorem room64 (n : Nat) (h : n ≤ 35184372088832) : roomA Try.prog n 47 = true := by
  unfold roomA
  rw [Bool.and_eq_true, decide_eq_true_eq, decide_eq_true_eq, show Try.prog.bytesOf 47 = 4 by kernel_rfl]
  omega
theorem rowOf_lim' (zs : List Int) : rowOf zs.length (lim zs) = zs := by rw [rowOf_lim _ (Nat.le_refl _), List.take_length]
theorem okr_lim {zs : List Int} (h : okL zs) (hl : zs.length ≤ 17592186044416) : sg0.okr zs.length (lim zs) = true := by
  show (okB _ _ && decide _) = true
  rw [(okB_iff _ _).2 (by rw [rowOf_lim']; exact h), decide_eq_true hl]
  rfl
theorem num_lim (zs : List Int) : sg0.num zs.length (lim zs) = vL zs := by
  show vL (rowOf _ _) = _
  rw [rowOf_lim']
theorem okB_lim {zs : List Int} (h : okL zs) : okB zs.length (lim zs) = true := (okB_iff _ _).2 (by rw [rowOf_lim']; exact h)
theorem norm_row {fl : Bool} {m : Nat} {f : Nat → Nat → AV} {α : Nat → Nat × Nat} {B : Nat → Prop} {w : World} {D : Nat → Prop} {x : Value} (hok : okB m f = true) (h : (AV.lst fl 47 m f).Rel Try.prog α B w D x) : (AV.lst false 47 (rowOf m f).length (lim (rowOf m f))).Rel Try.prog α B w D x := by
  rw [rowOf_len]
  exact lst_flag (row_norm cells47 hok h)
theorem okr_out {m : Nat} {f : Nat → Nat → AV} (h : sg0.okr m f = true) : okB m f = true ∧ okL (rowOf m f) ∧ (rowOf m f).length ≤ 17592186044416 ∧ sg0.num m f = vL (rowOf m f) := by
  have h : (okB m f && decide (m ≤ 17592186044416)) = true := h
  rw [Bool.and_eq_true, decide_eq_true_eq] at h
  exact ⟨h.1, (okB_iff _ _).1 h.1, by rw [rowOf_len]; exact h.2, rfl⟩
theorem oks_out {m : Nat} {f : Nat → Nat → AV} (h : sg0.oks m f = true) : okB m f = true ∧ okL (rowOf m f) ∧ (rowOf m f).length ≤ 8796093022208 ∧ sg0.num m f = vL (rowOf m f) := by
  have h : (okB m f && decide (m ≤ 8796093022208)) = true := h
  rw [Bool.and_eq_true, decide_eq_true_eq] at h
  exact ⟨h.1, (okB_iff _ _).1 h.1, by rw [rowOf_len]; exact h.2, rfl⟩
end
end Go.Proofs.Ytndpfegbbpoopaa.L
namespace Go.Proofs.Ytndpfegbbpoopaa.L
open Go Go.V Go.RowKit Go.Proofs.Ytndpfegbbpoopaa.Sp Go.Proofs.Ytndpfegbbpoopaa.F Go.Proofs.YtndpfegbbpoopaaW.PrintWords
open Go.Proofs (Try.prog)
noncomputable section
def CT (S : Sg) : FuncId → List AV → Option (Bool × AV) := addC 39 (tTrim S) noC
theorem CT_ok : Meets Try.prog (CT sg0) := (meets_none _).add eTrim
def Kall (_ : FuncId) : Bool := true
end
end Go.Proofs.Ytndpfegbbpoopaa.L
namespace Go.Proofs.Ytndpfegbbpoopaa.L
open Go Go.V Go.RowKit Go.Proofs.Ytndpfegbbpoopaa.Sp Go.Proofs.Ytndpfegbbpoopaa.F Go.Proofs.YtndpfegbbpoopaaW.PrintWords
open Go.Proofs (Try.prog)
noncomputable section
def inU (x : Int) : Bool := decide (0 ≤ x) && decide (x < 4294967296)
theorem inU_out {x : Int} (h : inU x = true) : ∃ a : Nat, a < 4294967296 ∧ x = a := by
  unfold inU at h
  rw [Bool.and_eq_true, decide_eq_true_eq, decide_eq_true_eq] at h
  exact ⟨x.toNat, by omega, by omega⟩
theorem inU_in {a : Nat} (h : a < 4294967296) : inU (a : Int) = true := by
  unfold inU
  rw [decide_eq_true (show (0 : Int) ≤ a by omega), decide_eq_true (show (a : Int) < 4294967296 by omega)]
  rfl
end
end Go.Proofs.Ytndpfegbbpoopaa.L
namespace Go.Proofs.Ytndpfegbbpoopaa.L
open Go Go.V Go.RowKit Go.Proofs.Ytndpfegbbpoopaa.Sp Go.Proofs.Ytndpfegbbpoopaa.F Go.Proofs.YtndpfegbbpoopaaW.PrintWords
open Go.Proofs (Try.prog)
noncomputable section
end
end Go.Proofs.Ytndpfegbbpoopaa.L
namespace Go.Proofs.Ytndpfegbbpoopaa.L
open Go Go.V Go.RowKit Go.Proofs.Ytndpfegbbpoopaa.Sp Go.Proofs.Ytndpfegbbpoopaa.F Go.Proofs.YtndpfegbbpoopaaW.PrintWords
open Go.Proofs (Try.prog)
noncomputable section
theorem or_i64 (v b : Nat) (hv : v < 36028797018963968) (hb : b < 256) : bitI .or .i64 ((v : Int) * 256) (b : Int) = ((v * 256 + b : Nat) : Int) := by
  have e3 : Go.bits .or .i64 ((v * 256 : Nat) : Int) ((b : Nat) : Int) = ((v * 256 + b : Nat) : Int) := by
    have := bits_join .i64 63 (by decide) (fun n h1 h2 => by rw [IntKind.wrap_i64]; omega) 8 ((v * 256 : Nat) : Int) ((b : Nat) : Int) (by omega) (by omega) (by omega) (by omega) (by omega) (by omega)
    rw [this]; omega
  rw [Int.natCast_mul] at e3
  exact e3
def lit (S : Sg) (b : Bool) (s : ByteArray) : Int := if s.size ≤ 7 then S.val b s else 0
structure Sl where
  b : Bool → ByteArray → Bool
  v : Bool → ByteArray → Int
end
end Go.Proofs.Ytndpfegbbpoopaa.L
