import Derived.Test.YtibaendebbicjaaZL
import Derived.Test.YtibaendebbicjaaZMA
import Derived.Test.YtibaendebbicjaaZMD
set_option linter.unusedVariables false
set_option linter.unusedSimpArgs false
namespace Go.Proofs.Ytibaendebbicjaa.L
open Go Go.V Go.RowKit Go.Proofs.Ytibaendebbicjaa.Sp
open Go.Proofs (Try.prog)
noncomputable section
def dp : Nat → Nat → List Int
  | 0, _ => []
  | k + 1, n => ((n % 10 + 48 : Nat) : Int) :: dp k (n / 10)
theorem dp_len : ∀ (k n : Nat), (dp k n).length = k
  | 0, _ => rfl
  | k + 1, n => by unfold dp; rw [List.length_cons, dp_len k]
theorem dp_add : ∀ (j k n : Nat), dp (j + k) n = dp j n ++ dp k (n / 10 ^ j)
  | 0, k, n => by rw [Nat.zero_add, Nat.pow_zero, Nat.div_one]; rfl
  | j + 1, k, n => by
    rw [show j + 1 + k = (j + k) + 1 by omega]
    show ((n % 10 + 48 : Nat) : Int) :: dp (j + k) (n / 10) = (((n % 10 + 48 : Nat) : Int) :: dp j (n / 10)) ++ _
    rw [dp_add j k (n / 10), Nat.div_div_eq_div_mul, List.cons_append, Nat.pow_succ, Nat.mul_comm 10]
theorem dp_mod : ∀ (k n : Nat), dp k (n % 10 ^ k) = dp k n
  | 0, n => rfl
  | k + 1, n => by
    show ((n % 10 ^ (k + 1) % 10 + 48 : Nat) : Int) :: dp k (n % 10 ^ (k + 1) / 10) = ((n % 10 + 48 : Nat) : Int) :: dp k (n / 10)
    have h1 : n % 10 ^ (k + 1) % 10 = n % 10 := Nat.mod_mod_of_dvd n ⟨10 ^ k, by rw [Nat.pow_succ, Nat.mul_comm]⟩
    have h2 : n % 10 ^ (k + 1) / 10 = n / 10 % 10 ^ k := by rw [Nat.pow_succ, Nat.mul_comm, Nat.mod_mul_right_div_self]
    rw [h1, h2, dp_mod k]
theorem dp_zero : ∀ k, dp k 0 = List.replicate k 48
  | 0 => rfl
  | k + 1 => by
    show (48 : Int) :: dp k (0 / 10) = _
    rw [Nat.zero_div, dp_zero k]; rfl
def dlF : Nat → Nat → Nat
  | 0, _ => 0
  | f + 1, n => if n = 0 then 0 else dlF f (n / 10) + 1
def dl (n : Nat) : Nat := dlF n n
theorem dlF_spec : ∀ (f n : Nat), n ≤ f → n < 10 ^ dlF f n ∧ (dlF f n = 0 ∨ 10 ^ (dlF f n - 1) ≤ n)
  | 0, n, h => by
    have : n = 0 := by omega
    subst this
    exact ⟨by decide, .inl rfl⟩
  | f + 1, n, h => by
    unfold dlF
    by_cases h0 : n = 0
    · rw [if_pos h0, h0]; exact ⟨by decide, .inl rfl⟩
    · rw [if_neg h0]
      obtain ⟨h1, h2⟩ := dlF_spec f (n / 10) (by omega)
      refine ⟨by rw [Nat.pow_succ]; omega, .inr ?_⟩
      rw [Nat.add_sub_cancel]
      rcases h2 with h2 | h2
      · rw [h2]; omega
      · cases hk : dlF f (n / 10) with
        | zero => rw [Nat.pow_zero]; omega
        | succ k => rw [hk, Nat.add_sub_cancel] at h2; rw [Nat.pow_succ]; omega
theorem dl_lt (n : Nat) : n < 10 ^ dl n := (dlF_spec n n (Nat.le_refl _)).1
theorem dl_ge (n : Nat) : dl n = 0 ∨ 10 ^ (dl n - 1) ≤ n := (dlF_spec n n (Nat.le_refl _)).2
theorem dl_le {n k : Nat} (h : n < 10 ^ k) : dl n ≤ k := by
  refine Nat.le_of_not_lt fun hk => ?_
  rcases dl_ge n with h1 | h1
  · omega
  · have := Nat.pow_le_pow_right (show 0 < 10 by decide) (show k ≤ dl n - 1 by omega)
    omega
theorem dl_pos {n : Nat} (h : n ≠ 0) : 0 < dl n := by
  refine Nat.pos_of_ne_zero fun h0 => ?_
  have := dl_lt n
  rw [h0] at this
  omega
theorem dp_more {n k : Nat} (h : n < 10 ^ k) : dp k n = dp (dl n) n ++ List.replicate (k - dl n) 48 := by
  have h1 := dl_le h
  have h2 : n / 10 ^ dl n = 0 := Nat.div_eq_of_lt (dl_lt n)
  rw [show k = dl n + (k - dl n) by omega, dp_add, h2, dp_zero, Nat.add_sub_cancel_left]
theorem dp_get : ∀ (k n i : Nat), i < k → (dp k n).getD i 0 = ((n / 10 ^ i % 10 + 48 : Nat) : Int)
  | 0, n, i, h => by omega
  | k + 1, n, 0, h => by show ((n % 10 + 48 : Nat) : Int) = _; rw [Nat.pow_zero, Nat.div_one]
  | k + 1, n, i + 1, h => by
    show (dp k (n / 10)).getD i 0 = _
    rw [dp_get k (n / 10) i (by omega), Nat.div_div_eq_div_mul, Nat.pow_succ, Nat.mul_comm 10]
theorem dp_top {n : Nat} (h : n ≠ 0) : (dp (dl n) n).getD (dl n - 1) 0 ≠ 48 := by
  have hp := dl_pos h
  rw [dp_get _ _ _ (by omega)]
  have h1 := dl_lt n
  have h2 : 10 ^ (dl n - 1) ≤ n := (dl_ge n).resolve_left (by omega)
  have h3 : 0 < 10 ^ (dl n - 1) := Nat.pow_pos (by decide)
  have h4 : n / 10 ^ (dl n - 1) < 10 := by
    rw [Nat.div_lt_iff_lt_mul h3, Nat.mul_comm, ← Nat.pow_succ, show (dl n - 1).succ = dl n by omega]; exact h1
  have h5 : 1 ≤ n / 10 ^ (dl n - 1) := by rw [Nat.le_div_iff_mul_le h3]; omega
  omega
theorem dp_dig : ∀ (k n : Nat), ∀ z ∈ dp k n, ∃ c : Nat, c < 10 ∧ z = ((c + 48 : Nat) : Int)
  | 0, n, z, h => by cases h
  | k + 1, n, z, h => by
    rcases List.mem_cons.1 h with rfl | h
    · exact ⟨n % 10, by omega, rfl⟩
    · exact dp_dig k _ z h
def txt (z : Int) : ByteArray := if z = 0 then ⟨#[48]⟩ else ofBytes ((if z < 0 then [45] else []) ++ (dp (dl z.natAbs) z.natAbs).reverse)
def okt (s : ByteArray) : Bool := decide (s.size ≤ 1000000)
def tPrt (S : Sg) (tx : Int → ByteArray) : List AV → Option (Bool × AV) := fun args => match args with | [.agg [.val (.bool b), .val (.string s)]] => some (okt s, .val (.string (tx (S.val b s)))) | _ => none
theorem vs_pow (s : ByteArray) : vS s < 10 ^ (9 * s.size) := by
  refine Nat.lt_of_lt_of_le (vS_lt s) ?_
  rw [Nat.pow_mul]
  exact Nat.pow_le_pow_left (by decide) _
theorem dp_u8 (k n : Nat) : ∀ z ∈ (dp k n).reverse, ∃ c : Nat, c < 256 ∧ z = (c : Int) := by
  intro z hz
  obtain ⟨c, hc, rfl⟩ := dp_dig k n z (List.mem_reverse.1 hz)
  exact ⟨c + 48, by omega, rfl⟩
def okb (l : List Int) : Prop := ∀ z ∈ l, ∃ c : Nat, c < 256 ∧ z = (c : Int)
end
end Go.Proofs.Ytibaendebbicjaa.L
namespace Go.Proofs.Ytibaendebbicjaa.L
open Go Go.V Go.RowKit Go.Proofs.Ytibaendebbicjaa.Sp
open Go.Proofs (Try.prog)
noncomputable section
def kck : List Nat := [0, 1, 1003]
abbrev p_ck : List Bool := [false]
def rcP : Rec := ⟨slots 62 [(3, .ptr 1 0)], #[11], 20, [false, true, false, true, true], .ready, none⟩
def sh_ck : List AV := slots 16 [(0, .yld 3), (1, .ptr 2 0)]
def hpA_ck (b : Bool) (s : ByteArray) (xs : List Int) : Hp := [.row (.cells [.val (.bool b), .val (.string s)]) 40 .live, .row (.cells [.val (.slice none 0 0)]) 77 .live, .row (.cells [.lst false 67 xs.length (lim xs)]) 64 .live, .loop rcP]
def hpB_ck (b : Bool) (s : ByteArray) (xs zs : List Int) : Hp := [.row (.cells [.val (.bool b), .val (.string s)]) 40 .live, .row (.cells [.sl false 5 4 0 zs.length]) 77 .live, .row (.cells [.lst false 67 xs.length (lim xs)]) 64 .live, .loop rcP, .row (.ints .u8 zs) 5 .live]
def CCk (S : Sg) : FuncId → List AV → Option (Bool × AV) := addC 68 (tShort S) noC
theorem round_ckA (S : Sg) (b : Bool) (s : ByteArray) (xs : List Int) : letI q_5 := (Rec.mk rcP.T rcP.params (20 : Nat) rcP.path LoopState.busy rcP.pend); letI q_1 := (Rec.mk q_5.T q_5.params (20 : Nat) q_5.path LoopState.ready none); letI q_4 := (IntKind.u32.wrap ((↑(S.num xs.length (lim xs) % (1000000000 : Nat)) : Int).tdiv (10 : Int))); letI q_2 := (IntKind.u32.wrap ((IntKind.u32.wrap (q_4.tdiv (10 : Int))).tdiv (10 : Int))); letI q_3 := (IntKind.u32.wrap ((IntKind.u32.wrap ((IntKind.u32.wrap (q_2.tdiv (10 : Int))).tdiv (10 : Int))).tdiv (10 : Int)));
    (roundF Try.prog ⟨CCk S, fun _ => false, noL⟩ 4 67 kck (lb 67 p_ck) (false :: p_ck) sh_ck (hpA_ck b s xs) = (bif decide ((0 : Int) < (↑xs.length : Int)) then (bif S.okr xs.length (lim xs) && true && true then some (.normal, slots 16 [(0, (.yld 3)), (1, (.ptr 2 0))], [(.row (.cells [(.val (.bool b)), (.val (.string s))]) 40 .live), (.row (.cells [(.sl false 5 4 0 9)]) 77 .live), (.row (.cells [(.lst false 67 (S.len (S.num xs.length (lim xs) / (1000000000 : Nat))) (S.row (S.num xs.length (lim xs) / (1000000000 : Nat))))]) 64 .live), (.loop (.mk [.any, .any, .any, (.ptr 1 0), .any, .any, .any, .any, .any, .any, .any, .any, .any, .any, .any, .any, .any, .any, .any, .any, .any, .any, .any, .any, .any, .any, .any, .any, .any, .any, .any, .any, .any, .any, .any, .any, .any, .any, .any, .any, .any, .any, .any, .any, .any, .any, .any, .any, .any, .any, .any, .any, .any, .any, .any, .any, .any, .any, .any, .any, .any, .any] ((Rec.mk (maskA (recMask kck) q_1.T) q_1.params (20 : Nat) q_1.path q_1.st q_1.pend).params) 20 ((Rec.mk (maskA (recMask kck) q_1.T) q_1.params (20 : Nat) q_1.path q_1.st q_1.pend).path) .ready .none)), (.row (.ints .u8 ([IntKind.u8.wrap (IntKind.u32.wrap ((48 : Int) + (↑(S.num xs.length (lim xs) % (1000000000 : Nat)) : Int).tmod (10 : Int))), IntKind.u8.wrap (IntKind.u32.wrap ((48 : Int) + q_4.tmod (10 : Int))), IntKind.u8.wrap (IntKind.u32.wrap ((48 : Int) + (IntKind.u32.wrap (q_4.tdiv (10 : Int))).tmod (10 : Int))), IntKind.u8.wrap (IntKind.u32.wrap ((48 : Int) + q_2.tmod (10 : Int))), IntKind.u8.wrap (IntKind.u32.wrap ((48 : Int) + (IntKind.u32.wrap (q_2.tdiv (10 : Int))).tmod (10 : Int))), IntKind.u8.wrap (IntKind.u32.wrap ((48 : Int) + (IntKind.u32.wrap ((IntKind.u32.wrap (q_2.tdiv (10 : Int))).tdiv (10 : Int))).tmod (10 : Int))), IntKind.u8.wrap (IntKind.u32.wrap ((48 : Int) + q_3.tmod (10 : Int))), IntKind.u8.wrap (IntKind.u32.wrap ((48 : Int) + (IntKind.u32.wrap (q_3.tdiv (10 : Int))).tmod (10 : Int))), IntKind.u8.wrap (IntKind.u32.wrap ((48 : Int) + (IntKind.u32.wrap ((IntKind.u32.wrap (q_3.tdiv (10 : Int))).tdiv (10 : Int))).tmod (10 : Int)))])) 5 .live)]) else none) else some ((.exit 0), slots 16 [(0, (.yld 3)), (1, (.ptr 2 0))], [(.row (.cells [(.val (.bool b)), (.val (.string s))]) 40 .live), (.row (.cells [(.val (.slice .none 0 0))]) 77 .live), (.row (.cells [(.lst false 67 xs.length (lim xs))]) 64 .live), (.loop (.mk [.any, .any, .any, (.ptr 1 0), .any, .any, .any, .any, .any, .any, .any, .any, .any, .any, .any, .any, .any, .any, .any, .any, .any, .any, .any, .any, .any, .any, .any, .any, .any, .any, .any, .any, .any, .any, .any, .any, .any, .any, .any, .any, .any, .any, .any, .any, .any, .any, .any, .any, .any, .any, .any, .any, .any, .any, .any, .any, .any, .any, .any, .any, .any, .any] ((Rec.mk (maskA (recMask kck) rcP.T) rcP.params (20 : Nat) rcP.path rcP.st rcP.pend).params) 20 ((Rec.mk (maskA (recMask kck) rcP.T) rcP.params (20 : Nat) rcP.path rcP.st rcP.pend).path) .ready .none))]))) := by kernel_rfl
theorem round_ckB (S : Sg) (b : Bool) (s : ByteArray) (xs zs : List Int) : letI q_18 := (zs.length + (1 : Nat) + (1 : Nat) + (1 : Nat) + (1 : Nat)); letI q_20 := (zs.length + (1 : Nat) + (1 : Nat) + (1 : Nat)); letI q_7 := (List.take (zs.length * (1 : Nat)) zs ++ [IntKind.u8.wrap (IntKind.u32.wrap ((48 : Int) + (↑(S.num xs.length (lim xs) % (1000000000 : Nat)) : Int).tmod (10 : Int)))]); letI q_6 := (IntKind.u32.wrap ((↑(S.num xs.length (lim xs) % (1000000000 : Nat)) : Int).tdiv (10 : Int))); letI q_16 := (List.take ((zs.length + (1 : Nat)) * (1 : Nat)) q_7 ++ [IntKind.u8.wrap (IntKind.u32.wrap ((48 : Int) + q_6.tmod (10 : Int)))]); letI q_4 := (List.take ((zs.length + (1 : Nat) + (1 : Nat)) * (1 : Nat)) q_16 ++ [IntKind.u8.wrap (IntKind.u32.wrap ((48 : Int) + (IntKind.u32.wrap (q_6.tdiv (10 : Int))).tmod (10 : Int)))]); letI q_14 := (IntKind.u32.wrap ((IntKind.u32.wrap (q_6.tdiv (10 : Int))).tdiv (10 : Int))); letI q_9 := (List.take (q_20 * (1 : Nat)) q_4 ++ [IntKind.u8.wrap (IntKind.u32.wrap ((48 : Int) + q_14.tmod (10 : Int)))]); letI q_1 := (List.take (q_18 * (1 : Nat)) q_9 ++ [IntKind.u8.wrap (IntKind.u32.wrap ((48 : Int) + (IntKind.u32.wrap (q_14.tdiv (10 : Int))).tmod (10 : Int)))]); letI q_15 := (Rec.mk rcP.T rcP.params (20 : Nat) rcP.path LoopState.busy rcP.pend); letI q_2 := (Rec.mk q_15.T q_15.params (20 : Nat) q_15.path LoopState.ready none); letI q_3 := (IntKind.u32.wrap ((IntKind.u32.wrap (q_14.tdiv (10 : Int))).tdiv (10 : Int))); letI q_13 := (zs.length + (1 : Nat) + (1 : Nat) + (1 : Nat) + (1 : Nat) + (1 : Nat) + (1 : Nat)); letI q_11 := (zs.length + (1 : Nat) + (1 : Nat) + (1 : Nat) + (1 : Nat) + (1 : Nat)); letI q_19 := (List.take (q_11 * (1 : Nat)) q_1 ++ [IntKind.u8.wrap (IntKind.u32.wrap ((48 : Int) + q_3.tmod (10 : Int)))]); letI q_5 := (List.take (q_13 * (1 : Nat)) q_19 ++ [IntKind.u8.wrap (IntKind.u32.wrap ((48 : Int) + (IntKind.u32.wrap (q_3.tdiv (10 : Int))).tmod (10 : Int)))]); letI q_8 := (zs.length + (1 : Nat) + (1 : Nat) + (1 : Nat) + (1 : Nat) + (1 : Nat) + (1 : Nat) + (1 : Nat)); letI q_10 := (zs.length + (1 : Nat) + (1 : Nat) + (1 : Nat) + (1 : Nat) + (1 : Nat) + (1 : Nat) + (1 : Nat) + (1 : Nat)); letI q_12 := (List.take (q_8 * (1 : Nat)) q_5 ++ [IntKind.u8.wrap (IntKind.u32.wrap ((48 : Int) + (IntKind.u32.wrap ((IntKind.u32.wrap (q_3.tdiv (10 : Int))).tdiv (10 : Int))).tmod (10 : Int)))]); letI q_17 := (zs.length + (1 : Nat) + (1 : Nat) + (1 : Nat) + (1 : Nat) + (1 : Nat) + (1 : Nat) + (1 : Nat) + (1 : Nat) + (1 : Nat));
    (roundF Try.prog ⟨CCk S, fun _ => false, noL⟩ 4 67 kck (lb 67 p_ck) (false :: p_ck) sh_ck (hpB_ck b s xs zs) = (bif decide ((0 : Int) < (↑xs.length : Int)) then (bif S.okr xs.length (lim xs) && true && true then (bif decide (zs.length * (1 : Nat) ≤ zs.length) && roomA Try.prog (zs.length + (1 : Nat)) (5 : Nat) && true then (bif decide ((zs.length + (1 : Nat)) * (1 : Nat) ≤ q_7.length) && roomA Try.prog (zs.length + (1 : Nat) + (1 : Nat)) (5 : Nat) && true then (bif decide ((zs.length + (1 : Nat) + (1 : Nat)) * (1 : Nat) ≤ q_16.length) && roomA Try.prog q_20 (5 : Nat) && true then (bif decide (q_20 * (1 : Nat) ≤ q_4.length) && roomA Try.prog q_18 (5 : Nat) && true then (bif decide (q_18 * (1 : Nat) ≤ q_9.length) && roomA Try.prog q_11 (5 : Nat) && true then (bif decide (q_11 * (1 : Nat) ≤ q_1.length) && roomA Try.prog q_13 (5 : Nat) && true then (bif decide (q_13 * (1 : Nat) ≤ q_19.length) && roomA Try.prog q_8 (5 : Nat) && true then (bif decide (q_8 * (1 : Nat) ≤ q_5.length) && roomA Try.prog q_10 (5 : Nat) && true then (bif decide (q_10 * (1 : Nat) ≤ q_12.length) && roomA Try.prog q_17 (5 : Nat) && true then some (.normal, slots 16 [(0, (.yld 3)), (1, (.ptr 2 0))], [(.row (.cells [(.val (.bool b)), (.val (.string s))]) 40 .live), (.row (.cells [(.sl false 5 4 0 q_17)]) 77 .live), (.row (.cells [(.lst false 67 (S.len (S.num xs.length (lim xs) / (1000000000 : Nat))) (S.row (S.num xs.length (lim xs) / (1000000000 : Nat))))]) 64 .live), (.loop (.mk [.any, .any, .any, (.ptr 1 0), .any, .any, .any, .any, .any, .any, .any, .any, .any, .any, .any, .any, .any, .any, .any, .any, .any, .any, .any, .any, .any, .any, .any, .any, .any, .any, .any, .any, .any, .any, .any, .any, .any, .any, .any, .any, .any, .any, .any, .any, .any, .any, .any, .any, .any, .any, .any, .any, .any, .any, .any, .any, .any, .any, .any, .any, .any, .any] ((Rec.mk (maskA (recMask kck) q_2.T) q_2.params (20 : Nat) q_2.path q_2.st q_2.pend).params) 20 ((Rec.mk (maskA (recMask kck) q_2.T) q_2.params (20 : Nat) q_2.path q_2.st q_2.pend).path) .ready .none)), (.row (.ints .u8 (List.take (q_10 * (1 : Nat)) q_12 ++ [IntKind.u8.wrap (IntKind.u32.wrap ((48 : Int) + (IntKind.u32.wrap ((IntKind.u32.wrap ((IntKind.u32.wrap (q_3.tdiv (10 : Int))).tdiv (10 : Int))).tdiv (10 : Int))).tmod (10 : Int)))])) 5 .live)]) else none) else none) else none) else none) else none) else none) else none) else none) else none) else none) else some ((.exit 0), slots 16 [(0, (.yld 3)), (1, (.ptr 2 0))], [(.row (.cells [(.val (.bool b)), (.val (.string s))]) 40 .live), (.row (.cells [(.sl false 5 4 0 zs.length)]) 77 .live), (.row (.cells [(.lst false 67 xs.length (lim xs))]) 64 .live), (.loop (.mk [.any, .any, .any, (.ptr 1 0), .any, .any, .any, .any, .any, .any, .any, .any, .any, .any, .any, .any, .any, .any, .any, .any, .any, .any, .any, .any, .any, .any, .any, .any, .any, .any, .any, .any, .any, .any, .any, .any, .any, .any, .any, .any, .any, .any, .any, .any, .any, .any, .any, .any, .any, .any, .any, .any, .any, .any, .any, .any, .any, .any, .any, .any, .any, .any] ((Rec.mk (maskA (recMask kck) rcP.T) rcP.params (20 : Nat) rcP.path rcP.st rcP.pend).params) 20 ((Rec.mk (maskA (recMask kck) rcP.T) rcP.params (20 : Nat) rcP.path rcP.st rcP.pend).path) .ready .none)), (.row (.ints .u8 zs) 5 .live)]))) := by kernel_rfl
theorem CCk_ok : Meets Try.prog (CCk sg0) := (meets_none _).add eShort
theorem body_ck : subC Try.prog 67 p_ck = some (.loop (lb 67 p_ck)) := by kernel_rfl
theorem code_ck : subC Try.prog 67 (false :: p_ck) = some (lb 67 p_ck) := by kernel_rfl
theorem step_ck {T : List AV} {H : Hp} {e : Ex} {T' : List AV} {H' : Hp} (h : roundF Try.prog ⟨CCk sg0, fun _ => false, noL⟩ 4 67 kck (lb 67 p_ck) (false :: p_ck) T H = some (e, T', H')) : V.Ends Try.prog false 4 0 (lb 67 p_ck) T H e T' H' :=
  round_endsF CCk_ok loops_none mixed code_ck h
theorem dgt (c : Nat) : IntKind.u8.wrap (IntKind.u32.wrap (48 + ((c : Nat) : Int).tmod 10)) = ((c % 10 + 48 : Nat) : Int) := by
  have e : ((c : Nat) : Int).tmod 10 = ((c % 10 : Nat) : Int) := rfl
  rw [e, IntKind.wrap_u32, IntKind.wrap_u8]
  omega
theorem dvt (c : Nat) (h : c < 4294967296) : IntKind.u32.wrap (((c : Nat) : Int).tdiv 10) = ((c / 10 : Nat) : Int) := by
  have e : ((c : Nat) : Int).tdiv 10 = ((c / 10 : Nat) : Int) := rfl
  rw [e, IntKind.wrap_u32]
  omega
theorem len_pow {n k : Nat} (h : n < 10 ^ (9 * k)) : (toL n).length ≤ 4 * k := by
  refine Nat.le_trans (len_bs n) (bs_le (Nat.lt_of_lt_of_le h ?_))
  rw [Nat.pow_mul, Nat.pow_mul]
  exact Nat.pow_le_pow_left (by decide) k
theorem num_toL (n : Nat) : sg0.num (toL n).length (lim (toL n)) = n := num_row n
theorem ok_toL {n k : Nat} (h : n < 10 ^ (9 * k)) (hk : k ≤ 1000000000) : sg0.okr (toL n).length (lim (toL n)) = true := by
  have h1 := len_pow h
  show (okB (toL n).length (lim (toL n)) && decide ((toL n).length ≤ 17592186044416)) = true
  rw [okB_enc, decide_eq_true (show (toL n).length ≤ 17592186044416 by omega)]
  rfl
theorem toL_posI {n : Nat} (h : n ≠ 0) : (0 : Int) < ((toL n).length : Int) := by
  rcases Nat.eq_zero_or_pos (toL n).length with h1 | h1
  · have h2 := vL_toL n
    rw [List.eq_nil_of_length_eq_zero h1] at h2
    exact absurd h2.symm h
  · omega
theorem ck_step (b : Bool) (s : ByteArray) {n k : Nat} (h0 : n ≠ 0) (h : n < 10 ^ (9 * k)) (hk : k ≤ 1000000000) :
    V.Ends Try.prog false 4 0 (lb 67 p_ck) sh_ck (hpA_ck b s (toL n)) .normal sh_ck (hpB_ck b s (toL (n / 10 ^ 9)) (dp 9 n)) ∧
    ∀ zs : List Int, zs.length ≤ 1000000000000 → V.Ends Try.prog false 4 0 (lb 67 p_ck) sh_ck (hpB_ck b s (toL n) zs) .normal sh_ck (hpB_ck b s (toL (n / 10 ^ 9)) (zs ++ dp 9 n)) := by
  have hc : n % 1000000000 < 1000000000 := Nat.mod_lt _ (by decide)
  have e9 : dp 9 n = dp 9 (n % 1000000000) := (dp_mod 9 n).symm
  constructor
  · refine step_ck ?_
    rw [round_ckA, num_toL, ok_toL h hk, dT (toL_posI h0), e9]
    generalize n % 1000000000 = c at *
    simp only [dgt, dvt c (by omega), dvt (c / 10) (by omega), dvt (c / 10 / 10) (by omega), dvt (c / 10 / 10 / 10) (by omega), dvt (c / 10 / 10 / 10 / 10) (by omega), dvt (c / 10 / 10 / 10 / 10 / 10) (by omega), dvt (c / 10 / 10 / 10 / 10 / 10 / 10) (by omega), dvt (c / 10 / 10 / 10 / 10 / 10 / 10 / 10) (by omega)]
    rfl
  · intro zs hz
    refine step_ck ?_
    rw [round_ckB, num_toL, ok_toL h hk, dT (toL_posI h0), e9]
    generalize n % 1000000000 = c at *
    simp only [dgt, dvt c (by omega), dvt (c / 10) (by omega), dvt (c / 10 / 10) (by omega), dvt (c / 10 / 10 / 10) (by omega), dvt (c / 10 / 10 / 10 / 10) (by omega), dvt (c / 10 / 10 / 10 / 10 / 10) (by omega), dvt (c / 10 / 10 / 10 / 10 / 10 / 10) (by omega), dvt (c / 10 / 10 / 10 / 10 / 10 / 10 / 10) (by omega)]
    simp only [Nat.mul_one, Nat.add_assoc, Nat.reduceAdd, List.take_length, List.take_of_length_le, List.length_append, List.length_cons, List.length_nil, Nat.le_refl, Nat.zero_add, List.append_assoc, List.cons_append, List.nil_append, decide_true]
    rw [room5 (zs.length + 1) (by omega), room5 (zs.length + 2) (by omega), room5 (zs.length + 3) (by omega), room5 (zs.length + 4) (by omega), room5 (zs.length + 5) (by omega), room5 (zs.length + 6) (by omega), room5 (zs.length + 7) (by omega), room5 (zs.length + 8) (by omega), room5 (zs.length + 9) (by omega)]
    unfold hpB_ck
    rw [List.length_append, dp_len]
    rfl
theorem ck_end (b : Bool) (s : ByteArray) (zs : List Int) : V.Ends Try.prog false 4 0 (lb 67 p_ck) sh_ck (hpB_ck b s (toL 0) zs) (.exit 0) sh_ck (hpB_ck b s [] zs) := by
  refine step_ck ?_
  have e : toL 0 = [] := toL_zero
  rw [e, round_ckB, dF (show ¬ (0 : Int) < (([] : List Int).length : Int) by decide)]
  rfl
theorem ck_go (b : Bool) (s : ByteArray) : ∀ (k n : Nat) (zs : List Int), n < 10 ^ (9 * k) → k ≤ 1000000000 → zs.length + 9 * k ≤ 1000000000000 → ∃ m, m ≤ k ∧ n < 10 ^ (9 * m) ∧ LoopToB Try.prog 4 (lb 67 p_ck) sh_ck (hpB_ck b s (toL n) zs) (.exit 0) sh_ck (hpB_ck b s [] (zs ++ dp (9 * m) n)) := by
  intro k
  induction k with
  | zero =>
    intro n zs h hk hz
    have : n = 0 := by rw [Nat.mul_zero, Nat.pow_zero] at h; omega
    subst this
    refine ⟨0, Nat.le_refl _, by decide, ?_⟩
    rw [show zs ++ dp (9 * 0) 0 = zs from List.append_nil zs]
    exact .last (ck_end b s zs) (by intro h; cases h)
  | succ k ih =>
    intro n zs h hk hz
    by_cases h0 : n = 0
    · subst h0
      refine ⟨0, Nat.zero_le _, by decide, ?_⟩
      rw [show zs ++ dp (9 * 0) 0 = zs from List.append_nil zs]
      exact .last (ck_end b s zs) (by intro h; cases h)
    · have hd : n / 10 ^ 9 < 10 ^ (9 * k) := by
        rw [Nat.div_lt_iff_lt_mul (by decide), ← Nat.pow_add, show 9 * k + 9 = 9 * (k + 1) by omega]; exact h
      obtain ⟨m, h1, h2, h3⟩ := ih (n / 10 ^ 9) (zs ++ dp 9 n) hd (by omega) (by rw [List.length_append, dp_len]; omega)
      refine ⟨m + 1, by omega, ?_, ?_⟩
      · rw [show 9 * (m + 1) = 9 * m + 9 by omega, Nat.pow_add, ← Nat.div_lt_iff_lt_mul (by decide)]; exact h2
      · rw [show 9 * (m + 1) = 9 + 9 * m by omega, dp_add, ← List.append_assoc]
        exact .more ((ck_step b s h0 h hk).2 zs (by omega)) h3
theorem ck_all (b : Bool) (s : ByteArray) {k n : Nat} (h0 : n ≠ 0) (h : n < 10 ^ (9 * k)) (hk : k ≤ 1000000000) : ∃ j, j ≤ 9 * k ∧ n < 10 ^ j ∧ LoopToB Try.prog 4 (lb 67 p_ck) sh_ck (hpA_ck b s (toL n)) (.exit 0) sh_ck (hpB_ck b s [] (dp j n)) := by
  cases k with
  | zero => rw [Nat.mul_zero, Nat.pow_zero] at h; omega
  | succ k =>
    have hd : n / 10 ^ 9 < 10 ^ (9 * k) := by
      rw [Nat.div_lt_iff_lt_mul (by decide), ← Nat.pow_add, show 9 * k + 9 = 9 * (k + 1) by omega]; exact h
    obtain ⟨m, h1, h2, h3⟩ := ck_go b s k (n / 10 ^ 9) (dp 9 n) hd (by omega) (by rw [dp_len]; omega)
    refine ⟨9 + 9 * m, by omega, ?_, ?_⟩
    · rw [Nat.add_comm, Nat.pow_add, ← Nat.div_lt_iff_lt_mul (by decide)]; exact h2
    · rw [dp_add]
      exact .more (ck_step b s h0 h hk).1 h3
abbrev KT_ck : Type := Bool → ByteArray → Nat → (Nat → Nat → AV) → Rec → Bool
abbrev FT_ck : Type := Bool → ByteArray → Nat → (Nat → Nat → AV) → List Int
def told_ck (κ : KT_ck) (φ : FT_ck) (T : List AV) (H : Hp) : Option (Bool × Ex × List AV × Hp) :=
  match lget T 0, lget T 1, H with
  | .yld 3, .ptr 2 0, [.row (.cells [.val (.bool b), .val (.string s)]) 40 .live, .row (.cells [.val (.slice none 0 0)]) 77 .live, .row (.cells [.lst false 67 m f]) 64 .live, .loop r] => bif T.length == 16 then some (κ b s m f r, .exit 0, sh_ck, hpB_ck b s [] (φ b s m f)) else none
  | _, _, _ => none
def LL_ck (κ : KT_ck) (φ : FT_ck) (L : LTab) : LTab := addLn 4 67 p_ck kck (told_ck κ φ) L
def post_ck (b : Bool) (s : ByteArray) (m : Nat) (f : Nat → Nat → AV) (zs : List Int) : Prop := ∃ n j, m = (toL n).length ∧ f = lim (toL n) ∧ j ≤ 1000000000 ∧ n < 10 ^ j ∧ zs = dp j n ∧ LoopToB Try.prog 4 (lb 67 p_ck) sh_ck (hpA_ck b s (toL n)) (.exit 0) sh_ck (hpB_ck b s [] zs)
def pre_ck (m : Nat) (f : Nat → Nat → AV) (r : Rec) : Prop := r = rcP ∧ ∃ n k, n ≠ 0 ∧ n < 10 ^ (9 * k) ∧ k ≤ 100000000 ∧ m = (toL n).length ∧ f = lim (toL n)
def phi_ck (b : Bool) (s : ByteArray) (m : Nat) (f : Nat → Nat → AV) : List Int := Classical.epsilon (post_ck b s m f)
def cond_ck (b : Bool) (s : ByteArray) (m : Nat) (f : Nat → Nat → AV) (r : Rec) : Bool := @decide (pre_ck m f r) (Classical.propDecidable _)
theorem phi_ck_spec (b : Bool) (s : ByteArray) {m : Nat} {f : Nat → Nat → AV} {r : Rec} (h : pre_ck m f r) : post_ck b s m f (phi_ck b s m f) := by
  obtain ⟨_, n, k, h0, h1, hk, h2, h3⟩ := h
  obtain ⟨j, h4, h5, h6⟩ := ck_all b s h0 h1 (by omega)
  exact Classical.epsilon_spec (p := post_ck b s m f) ⟨dp j n, n, j, h2, h3, by omega, h5, rfl, h6⟩
theorem cond_ck_eq (b : Bool) (s : ByteArray) {m : Nat} {f : Nat → Nat → AV} {r : Rec} (h : pre_ck m f r) : cond_ck b s m f r = true := @decide_eq_true _ (Classical.propDecidable _) h
theorem told_ck_ok (T : List AV) (H : Hp) (e : Ex) (T1 : List AV) (H1 : Hp) (h : told_ck cond_ck phi_ck T H = some (true, e, T1, H1)) : V.Ends Try.prog false 4 0 (.loop (lb 67 p_ck)) T H e T1 H1 := by
  unfold told_ck at h
  split at h
  · rename_i b s m f r h0 h1
    rw [Bool.cond_eq_ite] at h
    split at h
    · rename_i hlen
      rw [beq_iff_eq] at hlen
      simp only [Option.some.injEq, Prod.mk.injEq] at h
      obtain ⟨k1, rfl, rfl, rfl⟩ := h
      have kc : pre_ck m f r := @of_decide_eq_true _ (Classical.propDecidable _) k1
      have hs := phi_ck_spec b s kc
      obtain ⟨n, j, e1, e2, _, _, _, h6⟩ := hs
      rw [kc.1]
      subst e1 e2
      refine Ends.pre h6.ends (fun α B w D ys hr => slots_rel hlen (fun p hp y hy => ?_) hr)
      simp only [List.mem_cons, List.not_mem_nil, or_false] at hp
      rcases hp with rfl | rfl
      · rw [h0] at hy; exact hy
      · rw [h1] at hy; exact hy
    · cases h
  · cases h
theorem LL_ck_ok {L : LTab} (h : LOk Try.prog L) : LOk Try.prog (LL_ck cond_ck phi_ck L) := h.add2n body_ck told_ck_ok
end
end Go.Proofs.Ytibaendebbicjaa.L
namespace Go.Proofs.Ytibaendebbicjaa.L
open Go Go.V Go.RowKit Go.Proofs.Ytibaendebbicjaa.Sp
open Go.Proofs (Try.prog)
noncomputable section
abbrev p_tz : List Bool := [false, false, true, true, true]
def sh_tz (b : Bool) (s : ByteArray) (n : Nat) (zs : List Int) : List AV := slots 62 [(1, .ptr 0 0), (3, .ptr 1 0)]
def hp_tz (b : Bool) (s : ByteArray) (n : Nat) (zs : List Int) : Hp := [.row (.cells [.val (.bool b), .val (.string s)]) 40 .live, .row (.cells [.sl false 5 2 0 n]) 77 .live, .row (.ints .u8 zs) 5 .live]
theorem body_tz : subC Try.prog 20 p_tz = some (.loop (lb 20 p_tz)) := by kernel_rfl
theorem code_tz : subC Try.prog 20 (false :: p_tz) = some (lb 20 p_tz) := by kernel_rfl
theorem round_tz  (b : Bool) (s : ByteArray) (n : Nat) (zs : List Int) :
    (roundA Try.prog EL0 20 [1, 3] (lb 20 p_tz) (false :: p_tz) (sh_tz b s n zs) (hp_tz b s n zs) = (bif decide ((0 : Int) < (↑n : Int)) then (bif inR IntKind.i64 ((↑n : Int) - (1 : Int)) then (bif decide ((0 : Int) ≤ (↑n : Int) - (1 : Int)) && decide ((↑n : Int) - (1 : Int) < (↑n : Int)) then (bif decide ((0 : Nat) + ((↑n : Int) - (1 : Int)).toNat * (1 : Nat) < zs.length) then (bif decide (zs.getD ((0 : Nat) + ((↑n : Int) - (1 : Int)).toNat * (1 : Nat)) (0 : Int) = (48 : Int)) then (bif inR IntKind.i64 ((↑n : Int) - (1 : Int)) then (bif decide ((0 : Int) ≤ (↑n : Int) - (1 : Int)) && decide ((↑n : Int) - (1 : Int) ≤ (↑n : Int)) then some (.normal, slots 62 [(1, (.ptr 0 0)), (3, (.ptr 1 0))], [(.row (.cells [(.val (.bool b)), (.val (.string s))]) 40 .live), (.row (.cells [(.sl false 5 2 0 (((↑n : Int) - (1 : Int)).toNat - (0 : Nat)))]) 77 .live), (.row (.ints .u8 zs) 5 .live)]) else none) else none) else some ((.exit 4), slots 62 [(1, (.ptr 0 0)), (3, (.ptr 1 0))], [(.row (.cells [(.val (.bool b)), (.val (.string s))]) 40 .live), (.row (.cells [(.sl false 5 2 0 n)]) 77 .live), (.row (.ints .u8 zs) 5 .live)])) else none) else none) else none) else some ((.exit 4), slots 62 [(1, (.ptr 0 0)), (3, (.ptr 1 0))], [(.row (.cells [(.val (.bool b)), (.val (.string s))]) 40 .live), (.row (.cells [(.sl false 5 2 0 n)]) 77 .live), (.row (.ints .u8 zs) 5 .live)]))) := by kernel_rfl
theorem step_tz {b : Bool} {s : ByteArray} {n : Nat} {zs : List Int} {e : Ex} {T : List AV} {H : Hp} (h : roundA Try.prog EL0 20 [1, 3] (lb 20 p_tz) (false :: p_tz) (sh_tz b s n zs) (hp_tz b s n zs) = some (e, T, H)) : V.Ends Try.prog false 0 0 (lb 20 p_tz) (sh_tz b s n zs) (hp_tz b s n zs) e T H :=
  round_ends (meets_none _) loops_none mixed code_tz h
def pre_tz (b : Bool) (s : ByteArray) (n : Nat) (zs : List Int) : Prop := n ≤ zs.length ∧ zs.length ≤ 1000000000000
def post_tz (b : Bool) (s : ByteArray) (n : Nat) (zs : List Int) (r : Nat) : Prop := r ≤ n ∧ (∀ i, r ≤ i → i < n → zs.getD i 0 = 48) ∧ (r = 0 ∨ zs.getD (r - 1) 0 ≠ 48)
theorem loop_tz (b : Bool) (s : ByteArray) (n : Nat) (zs : List Int) (h : pre_tz b s n zs) : ∃ r : Nat, LoopTo Try.prog (lb 20 p_tz) (sh_tz b s n zs) (hp_tz b s n zs) (.exit 4) (sh_tz b s r zs) (hp_tz b s r zs) ∧ post_tz b s n zs r := by
  obtain ⟨h1, h2⟩ := h
  induction n with
  | zero =>
    refine ⟨0, .last (step_tz ?_) (by intro h; cases h), Nat.le_refl _, fun i hi h => by omega, .inl rfl⟩
    rw [round_tz, dF (show ¬ (0 : Int) < ((0 : Nat) : Int) by decide)]
    rfl
  | succ n ih =>
    have hr := round_tz b s (n + 1) zs
    have e1 : (((n + 1 : Nat) : Int) - 1) = (n : Int) := by omega
    rw [e1, dT (show (0 : Int) < ((n + 1 : Nat) : Int) by omega), i64T (z := (n : Int)) (by omega), dT (show (0 : Int) ≤ (n : Int) by omega), dT (show (n : Int) < ((n + 1 : Nat) : Int) by omega), dT (show (n : Int) ≤ ((n + 1 : Nat) : Int) by omega), Int.toNat_natCast, Nat.mul_one, Nat.zero_add, dT (show n < zs.length by omega)] at hr
    by_cases hz : zs.getD n 0 = 48
    · rw [dT hz] at hr
      obtain ⟨r, k1, k2, k3, k4⟩ := ih (by omega)
      refine ⟨r, .more (step_tz hr) k1, by omega, fun i h3 h4 => ?_, k4⟩
      by_cases hi : i = n
      · rw [hi]; exact hz
      · exact k3 i h3 (by omega)
    · rw [dF hz] at hr
      exact ⟨n + 1, .last (step_tz hr) (by intro h; cases h), Nat.le_refl _, fun i h3 h4 => by omega, .inr (by rw [Nat.add_sub_cancel]; exact hz)⟩
def told_tz (κ : Bool → ByteArray → Nat → List Int → Bool) (φ : Bool → ByteArray → Nat → List Int → Nat) (T : List AV) (H : Hp) : Option (Bool × Ex × List AV × Hp) :=
  match lget T 1, lget T 3, H with
  | .ptr 0 0, .ptr 1 0, [.row (.cells [.val (.bool b), .val (.string s)]) 40 .live, .row (.cells [.sl false 5 2 0 n]) 77 .live, .row (.ints .u8 zs) 5 .live] => bif T.length == 62 then some (κ b s n zs, .exit 4, sh_tz b s ((φ b s n zs)) zs, hp_tz b s ((φ b s n zs)) zs) else none
  | _, _, _ => none
abbrev KT_tz : Type := Bool → ByteArray → Nat → List Int → Bool
abbrev FT_tz : Type := Bool → ByteArray → Nat → List Int → Nat
def LL_tz (κ : KT_tz) (φ : FT_tz) (L : LTab) : LTab := addLn 0 20 p_tz [1, 3] (told_tz κ φ) L
def phi_tz (b : Bool) (s : ByteArray) (n : Nat) (zs : List Int) : Nat := Classical.epsilon fun ρ => LoopTo Try.prog (lb 20 p_tz) (sh_tz b s n zs) (hp_tz b s n zs) (.exit 4) (sh_tz b s (ρ) zs) (hp_tz b s (ρ) zs) ∧ post_tz b s n zs ρ
theorem phi_tz_spec (b : Bool) (s : ByteArray) (n : Nat) (zs : List Int) (h : pre_tz b s n zs) : LoopTo Try.prog (lb 20 p_tz) (sh_tz b s n zs) (hp_tz b s n zs) (.exit 4) (sh_tz b s ((phi_tz b s n zs)) zs) (hp_tz b s ((phi_tz b s n zs)) zs) ∧ post_tz b s n zs (phi_tz b s n zs) := Classical.epsilon_spec (loop_tz b s n zs h)
def cond_tz (b : Bool) (s : ByteArray) (n : Nat) (zs : List Int) : Bool := @decide (pre_tz b s n zs) (Classical.propDecidable _)
theorem cond_tz_eq (b : Bool) (s : ByteArray) (n : Nat) (zs : List Int) (h : pre_tz b s n zs) : cond_tz b s n zs = true := @decide_eq_true _ (Classical.propDecidable _) h
theorem told_tz_ok (T : List AV) (H : Hp) (e : Ex) (T1 : List AV) (H1 : Hp) (h : told_tz cond_tz phi_tz T H = some (true, e, T1, H1)) : V.Ends Try.prog false 0 0 (.loop (lb 20 p_tz)) T H e T1 H1 := by
  unfold told_tz at h
  split at h
  · rename_i b s n zs h1 h3
    rw [Bool.cond_eq_ite] at h
    split at h
    · rename_i hlen
      rw [beq_iff_eq] at hlen
      simp only [Option.some.injEq, Prod.mk.injEq, Bool.and_eq_true, decide_eq_true_eq] at h
      obtain ⟨k1, rfl, rfl, rfl⟩ := h
      have kc := @of_decide_eq_true _ (Classical.propDecidable _) k1
      refine Ends.pre (phi_tz_spec b s n zs kc).1.ends (fun α B w D ys hr => slots_rel hlen (fun p hp y hy => ?_) hr)
      simp only [List.mem_cons, List.not_mem_nil, or_false] at hp
      rcases hp with rfl | rfl
      · rw [h1] at hy; exact hy
      · rw [h3] at hy; exact hy
    · cases h
  · cases h
theorem LL_tz_ok {L : LTab} (h : LOk Try.prog L) : LOk Try.prog (LL_tz cond_tz phi_tz L) := h.add2n body_tz told_tz_ok
abbrev p_wB : List Bool := [false, true, false, true, true, true, true, true, true]
def sh_wB (i : Int) (n : Nat) (zs : List Int) (ws : List Int) : List AV := slots 62 [(3, .ptr 0 0), (5, .ptr 1 0), (6, .val (.int .i64 i))]
def hp_wB (i : Int) (n : Nat) (zs : List Int) (ws : List Int) : Hp := [.row (.cells [.sl false 5 2 0 n]) 77 .live, .row (.cells [.ptr 1 0, .sl false 5 3 0 ws.length]) 83 .live, .row (.ints .u8 zs) 5 .live, .row (.ints .u8 ws) 5 .live]
theorem body_wB : subC Try.prog 20 p_wB = some (.loop (lb 20 p_wB)) := by kernel_rfl
theorem code_wB : subC Try.prog 20 (false :: p_wB) = some (lb 20 p_wB) := by kernel_rfl
theorem round_wB  (i : Int) (n : Nat) (zs : List Int) (ws : List Int) : roundA Try.prog EL0 20 [3, 5, 6] (lb 20 p_wB) (false :: p_wB) (sh_wB i n zs ws) (hp_wB i n zs ws) =
    (bif decide ((0 : Int) ≤ i) then (bif decide ((0 : Int) ≤ i) && decide (i < (↑n : Int)) then (bif decide ((0 : Nat) + i.toNat * (1 : Nat) < zs.length) then (bif decide (ws.length * (1 : Nat) ≤ ws.length) && roomA Try.prog (ws.length + (1 : Nat)) (5 : Nat) && true then (bif inR IntKind.i64 (i - (1 : Int)) then some (.normal, slots 62 [(3, (.ptr 0 0)), (5, (.ptr 1 0)), (6, (.val (.int .i64 (i - (1 : Int)))))], [(.row (.cells [(.sl false 5 2 0 n)]) 77 .live), (.row (.cells [(.ptr 1 0), (.sl false 5 3 0 (ws.length + (1 : Nat)))]) 83 .live), (.row (.ints .u8 zs) 5 .live), (.row (.ints .u8 (List.take (ws.length * (1 : Nat)) ws ++ [zs.getD ((0 : Nat) + i.toNat * (1 : Nat)) (0 : Int)])) 5 .live)]) else none) else none) else none) else none) else some ((.exit 7), slots 62 [(3, (.ptr 0 0)), (5, (.ptr 1 0)), (6, (.val (.int .i64 i)))], [(.row (.cells [(.sl false 5 2 0 n)]) 77 .live), (.row (.cells [(.ptr 1 0), (.sl false 5 3 0 ws.length)]) 83 .live), (.row (.ints .u8 zs) 5 .live), (.row (.ints .u8 ws) 5 .live)])) := by kernel_rfl
theorem step_wB {i : Int} {n : Nat} {zs : List Int} {ws : List Int} {e : Ex} {T : List AV} {H : Hp} (h : roundA Try.prog EL0 20 [3, 5, 6] (lb 20 p_wB) (false :: p_wB) (sh_wB i n zs ws) (hp_wB i n zs ws) = some (e, T, H)) : V.Ends Try.prog false 0 0 (lb 20 p_wB) (sh_wB i n zs ws) (hp_wB i n zs ws) e T H :=
  round_ends (meets_none _) loops_none mixed code_wB h
def pre_wB (i : Int) (n : Nat) (zs ws : List Int) : Prop := i = (n : Int) - 1 ∧ n ≤ zs.length ∧ zs.length ≤ 1000000000000 ∧ ws.length ≤ 1000000000000
def post_wB (i : Int) (n : Nat) (zs ws : List Int) (r : Int × List Int) : Prop := r.2 = ws ++ (zs.take n).reverse
theorem rev_take (zs : List Int) (k : Nat) (h : k < zs.length) : (zs.take (k + 1)).reverse = zs.getD k 0 :: (zs.take k).reverse := by
  rw [List.take_succ_eq_append_getElem h, List.reverse_append, List.getD_eq_getElem?_getD, List.getElem?_eq_getElem h]
  rfl
theorem wB_go (n : Nat) (zs : List Int) (hn : n ≤ zs.length) (hz : zs.length ≤ 1000000000000) : ∀ (k : Nat) (ws : List Int), k ≤ n → ws.length + k ≤ 3000000000000 → LoopTo Try.prog (lb 20 p_wB) (sh_wB ((k : Int) - 1) n zs ws) (hp_wB ((k : Int) - 1) n zs ws) (.exit 7) (sh_wB (-1) n zs (ws ++ (zs.take k).reverse)) (hp_wB (-1) n zs (ws ++ (zs.take k).reverse)) := by
  intro k
  induction k with
  | zero =>
    intro ws hk hl
    refine .last (step_wB ?_) (by intro h; cases h)
    rw [round_wB, dF (show ¬ (0 : Int) ≤ ((0 : Nat) : Int) - 1 by decide), List.take_zero, List.reverse_nil, List.append_nil]
    rfl
  | succ k ih =>
    intro ws hk hl
    have hr := round_wB (((k + 1 : Nat) : Int) - 1) n zs ws
    have e1 : (((k + 1 : Nat) : Int) - 1) = (k : Int) := by omega
    rw [e1, dT (show (0 : Int) ≤ (k : Int) by omega), dT (show (k : Int) < (n : Int) by omega), Int.toNat_natCast, Nat.mul_one, Nat.mul_one, Nat.zero_add, dT (show k < zs.length by omega), dT (show ws.length ≤ ws.length by omega), room5 (ws.length + 1) (by omega), i64T (z := (k : Int) - 1) (by omega), List.take_length] at hr
    rw [e1]
    have := ih (ws ++ [zs.getD k 0]) (by omega) (by rw [List.length_append]; show ws.length + 1 + k ≤ _; omega)
    rw [rev_take zs k (by omega), show ws ++ zs.getD k 0 :: (zs.take k).reverse = ws ++ [zs.getD k 0] ++ (zs.take k).reverse by rw [List.append_assoc]; rfl]
    refine .more (step_wB (T := sh_wB ((k : Int) - 1) n zs (ws ++ [zs.getD k 0])) (H := hp_wB ((k : Int) - 1) n zs (ws ++ [zs.getD k 0])) ?_) this
    rw [hr]
    unfold sh_wB hp_wB
    rw [List.length_append]
    rfl
theorem loop_wB (i : Int) (n : Nat) (zs ws : List Int) (h : pre_wB i n zs ws) : ∃ r : Int × List Int, LoopTo Try.prog (lb 20 p_wB) (sh_wB i n zs ws) (hp_wB i n zs ws) (.exit 7) (sh_wB r.1 n zs r.2) (hp_wB r.1 n zs r.2) ∧ post_wB i n zs ws r := by
  obtain ⟨rfl, h1, h2, h3⟩ := h
  exact ⟨(-1, ws ++ (zs.take n).reverse), wB_go n zs h1 h2 n ws (Nat.le_refl _) (by omega), rfl⟩
def told_wB (κ : Int → Nat → List Int → List Int → Bool) (φ : Int → Nat → List Int → List Int → Int × List Int) (T : List AV) (H : Hp) : Option (Bool × Ex × List AV × Hp) :=
  match lget T 3, lget T 5, lget T 6, H with
  | .ptr 0 0, .ptr 1 0, .val (.int .i64 i), [.row (.cells [.sl false 5 2 0 n]) 77 .live, .row (.cells [.ptr 1 0, .sl false 5 3 0 mh_ws]) 83 .live, .row (.ints .u8 zs) 5 .live, .row (.ints .u8 ws) 5 .live] => bif T.length == 62 then some (decide (mh_ws = ws.length) && κ i n zs ws, .exit 7, sh_wB ((φ i n zs ws).1) n zs ((φ i n zs ws).2), hp_wB ((φ i n zs ws).1) n zs ((φ i n zs ws).2)) else none
  | _, _, _, _ => none
abbrev KT_wB : Type := Int → Nat → List Int → List Int → Bool
abbrev FT_wB : Type := Int → Nat → List Int → List Int → Int × List Int
def LL_wB (κ : KT_wB) (φ : FT_wB) (L : LTab) : LTab := addLn 0 20 p_wB [3, 5, 6] (told_wB κ φ) L
def phi_wB (i : Int) (n : Nat) (zs : List Int) (ws : List Int) : Int × List Int := Classical.epsilon fun ρ => LoopTo Try.prog (lb 20 p_wB) (sh_wB i n zs ws) (hp_wB i n zs ws) (.exit 7) (sh_wB (ρ.1) n zs (ρ.2)) (hp_wB (ρ.1) n zs (ρ.2)) ∧ post_wB i n zs ws ρ
theorem phi_wB_spec (i : Int) (n : Nat) (zs : List Int) (ws : List Int) (h : pre_wB i n zs ws) : LoopTo Try.prog (lb 20 p_wB) (sh_wB i n zs ws) (hp_wB i n zs ws) (.exit 7) (sh_wB ((phi_wB i n zs ws).1) n zs ((phi_wB i n zs ws).2)) (hp_wB ((phi_wB i n zs ws).1) n zs ((phi_wB i n zs ws).2)) ∧ post_wB i n zs ws (phi_wB i n zs ws) := Classical.epsilon_spec (loop_wB i n zs ws h)
def cond_wB (i : Int) (n : Nat) (zs : List Int) (ws : List Int) : Bool := @decide (pre_wB i n zs ws) (Classical.propDecidable _)
theorem cond_wB_eq (i : Int) (n : Nat) (zs : List Int) (ws : List Int) (h : pre_wB i n zs ws) : cond_wB i n zs ws = true := @decide_eq_true _ (Classical.propDecidable _) h
theorem told_wB_ok (T : List AV) (H : Hp) (e : Ex) (T1 : List AV) (H1 : Hp) (h : told_wB cond_wB phi_wB T H = some (true, e, T1, H1)) : V.Ends Try.prog false 0 0 (.loop (lb 20 p_wB)) T H e T1 H1 := by
  unfold told_wB at h
  split at h
  · rename_i i n mh_ws zs ws h3 h5 h6
    rw [Bool.cond_eq_ite] at h
    split at h
    · rename_i hlen
      rw [beq_iff_eq] at hlen
      simp only [Option.some.injEq, Prod.mk.injEq, Bool.and_eq_true, decide_eq_true_eq] at h
      obtain ⟨⟨k1, k2⟩, rfl, rfl, rfl⟩ := h
      subst k1
      have kc := @of_decide_eq_true _ (Classical.propDecidable _) k2
      refine Ends.pre (phi_wB_spec i n zs ws kc).1.ends (fun α B w D ys hr => slots_rel hlen (fun p hp y hy => ?_) hr)
      simp only [List.mem_cons, List.not_mem_nil, or_false] at hp
      rcases hp with rfl | rfl | rfl
      · rw [h3] at hy; exact hy
      · rw [h5] at hy; exact hy
      · rw [h6] at hy; exact hy
    · cases h
  · cases h
theorem LL_wB_ok {L : LTab} (h : LOk Try.prog L) : LOk Try.prog (LL_wB cond_wB phi_wB L) := h.add2n body_wB told_wB_ok
abbrev p_wA : List Bool := [false, true, false, true, true, true, true, true, true]
def sh_wA (i : Int) (n : Nat) (zs : List Int) : List AV := slots 62 [(3, .ptr 0 0), (5, .ptr 1 0), (6, .val (.int .i64 i))]
def hp_wA (i : Int) (n : Nat) (zs : List Int) : Hp := [.row (.cells [.sl false 5 2 0 n]) 77 .live, .row (.cells [.val (.pointer none), .val (.slice none 0 0)]) 83 .live, .row (.ints .u8 zs) 5 .live]
theorem body_wA : subC Try.prog 20 p_wA = some (.loop (lb 20 p_wA)) := by kernel_rfl
theorem code_wA : subC Try.prog 20 (false :: p_wA) = some (lb 20 p_wA) := by kernel_rfl
theorem round_wA  (i : Int) (n : Nat) (zs : List Int) : roundA Try.prog EL0 20 [3, 5, 6] (lb 20 p_wA) (false :: p_wA) (sh_wA i n zs) (hp_wA i n zs) =
    (bif decide ((0 : Int) ≤ i) then (bif decide ((0 : Int) ≤ i) && decide (i < (↑n : Int)) then (bif decide ((0 : Nat) + i.toNat * (1 : Nat) < zs.length) then (bif inR IntKind.i64 (i - (1 : Int)) then some (.normal, slots 62 [(3, (.ptr 0 0)), (5, (.ptr 1 0)), (6, (.val (.int .i64 (i - (1 : Int)))))], [(.row (.cells [(.sl false 5 2 0 n)]) 77 .live), (.row (.cells [(.ptr 1 0), (.sl false 5 3 0 1)]) 83 .live), (.row (.ints .u8 zs) 5 .live), (.row (.ints .u8 ([zs.getD ((0 : Nat) + i.toNat * (1 : Nat)) (0 : Int)])) 5 .live)]) else none) else none) else none) else some ((.exit 7), slots 62 [(3, (.ptr 0 0)), (5, (.ptr 1 0)), (6, (.val (.int .i64 i)))], [(.row (.cells [(.sl false 5 2 0 n)]) 77 .live), (.row (.cells [(.val (.pointer .none)), (.val (.slice .none 0 0))]) 83 .live), (.row (.ints .u8 zs) 5 .live)])) := by kernel_rfl
theorem step_wA {i : Int} {n : Nat} {zs : List Int} {e : Ex} {T : List AV} {H : Hp} (h : roundA Try.prog EL0 20 [3, 5, 6] (lb 20 p_wA) (false :: p_wA) (sh_wA i n zs) (hp_wA i n zs) = some (e, T, H)) : V.Ends Try.prog false 0 0 (lb 20 p_wA) (sh_wA i n zs) (hp_wA i n zs) e T H :=
  round_ends (meets_none _) loops_none mixed code_wA h
def pre_wA (i : Int) (n : Nat) (zs : List Int) : Prop := i = (n : Int) - 1 ∧ 0 < n ∧ n ≤ zs.length ∧ zs.length ≤ 1000000000000
def post_wA (i : Int) (n : Nat) (zs : List Int) (r : Int × List Int) : Prop := r.2 = (zs.take n).reverse
theorem loop_wA (i : Int) (n : Nat) (zs : List Int) (h : pre_wA i n zs) : ∃ r : Int × List Int, LoopTo Try.prog (lb 20 p_wA) (sh_wA i n zs) (hp_wA i n zs) (.exit 7) (sh_wB r.1 n zs r.2) (hp_wB r.1 n zs r.2) ∧ post_wA i n zs r := by
  obtain ⟨rfl, h1, h2, h3⟩ := h
  cases n with
  | zero => omega
  | succ k =>
    have hr := round_wA (((k + 1 : Nat) : Int) - 1) (k + 1) zs
    have e1 : (((k + 1 : Nat) : Int) - 1) = (k : Int) := by omega
    rw [e1, dT (show (0 : Int) ≤ (k : Int) by omega), dT (show (k : Int) < ((k + 1 : Nat) : Int) by omega), Int.toNat_natCast, Nat.mul_one, Nat.zero_add, dT (show k < zs.length by omega), i64T (z := (k : Int) - 1) (by omega)] at hr
    rw [e1]
    have := wB_go (k + 1) zs h2 h3 k [zs.getD k 0] (by omega) (by show 1 + k ≤ _; omega)
    refine ⟨(-1, [zs.getD k 0] ++ (zs.take k).reverse), .more (step_wA hr) this, ?_⟩
    show [zs.getD k 0] ++ (zs.take k).reverse = _
    rw [rev_take zs k (by omega)]
    rfl
def told_wA (κ : Int → Nat → List Int → Bool) (φ : Int → Nat → List Int → Int × List Int) (T : List AV) (H : Hp) : Option (Bool × Ex × List AV × Hp) :=
  match lget T 3, lget T 5, lget T 6, H with
  | .ptr 0 0, .ptr 1 0, .val (.int .i64 i), [.row (.cells [.sl false 5 2 0 n]) 77 .live, .row (.cells [.val (.pointer none), .val (.slice none 0 0)]) 83 .live, .row (.ints .u8 zs) 5 .live] => bif T.length == 62 then some (κ i n zs, .exit 7, sh_wB ((φ i n zs).1) n zs ((φ i n zs).2), hp_wB ((φ i n zs).1) n zs ((φ i n zs).2)) else none
  | _, _, _, _ => none
abbrev KT_wA : Type := Int → Nat → List Int → Bool
abbrev FT_wA : Type := Int → Nat → List Int → Int × List Int
def LL_wA (κ : KT_wA) (φ : FT_wA) (L : LTab) : LTab := addLn 0 20 p_wA [3, 5, 6] (told_wA κ φ) L
def phi_wA (i : Int) (n : Nat) (zs : List Int) : Int × List Int := Classical.epsilon fun ρ => LoopTo Try.prog (lb 20 p_wA) (sh_wA i n zs) (hp_wA i n zs) (.exit 7) (sh_wB (ρ.1) n zs (ρ.2)) (hp_wB (ρ.1) n zs (ρ.2)) ∧ post_wA i n zs ρ
theorem phi_wA_spec (i : Int) (n : Nat) (zs : List Int) (h : pre_wA i n zs) : LoopTo Try.prog (lb 20 p_wA) (sh_wA i n zs) (hp_wA i n zs) (.exit 7) (sh_wB ((phi_wA i n zs).1) n zs ((phi_wA i n zs).2)) (hp_wB ((phi_wA i n zs).1) n zs ((phi_wA i n zs).2)) ∧ post_wA i n zs (phi_wA i n zs) := Classical.epsilon_spec (loop_wA i n zs h)
def cond_wA (i : Int) (n : Nat) (zs : List Int) : Bool := @decide (pre_wA i n zs) (Classical.propDecidable _)
theorem cond_wA_eq (i : Int) (n : Nat) (zs : List Int) (h : pre_wA i n zs) : cond_wA i n zs = true := @decide_eq_true _ (Classical.propDecidable _) h
theorem told_wA_ok (T : List AV) (H : Hp) (e : Ex) (T1 : List AV) (H1 : Hp) (h : told_wA cond_wA phi_wA T H = some (true, e, T1, H1)) : V.Ends Try.prog false 0 0 (.loop (lb 20 p_wA)) T H e T1 H1 := by
  unfold told_wA at h
  split at h
  · rename_i i n zs h3 h5 h6
    rw [Bool.cond_eq_ite] at h
    split at h
    · rename_i hlen
      rw [beq_iff_eq] at hlen
      simp only [Option.some.injEq, Prod.mk.injEq, Bool.and_eq_true, decide_eq_true_eq] at h
      obtain ⟨k1, rfl, rfl, rfl⟩ := h
      have kc := @of_decide_eq_true _ (Classical.propDecidable _) k1
      refine Ends.pre (phi_wA_spec i n zs kc).1.ends (fun α B w D ys hr => slots_rel hlen (fun p hp y hy => ?_) hr)
      simp only [List.mem_cons, List.not_mem_nil, or_false] at hp
      rcases hp with rfl | rfl | rfl
      · rw [h3] at hy; exact hy
      · rw [h5] at hy; exact hy
      · rw [h6] at hy; exact hy
    · cases h
  · cases h
theorem LL_wA_ok {L : LTab} (h : LOk Try.prog L) : LOk Try.prog (LL_wA cond_wA phi_wA L) := h.add2n body_wA told_wA_ok
def CPrt (S : Sg) : FuncId → List AV → Option (Bool × AV) := addC 33 (tLoad S) noC
theorem print_f (S : Sg) (κ1 : KT_ck) (φ1 : FT_ck) (κ2 : KT_tz) (φ2 : FT_tz) (κ3 : KT_wA) (φ3 : FT_wA) (s : ByteArray) : letI z := (φ1 false s (S.len (S.vs s)) (S.row (S.vs s))); letI n := (φ2 false s z.length z); letI w := (φ3 (((n : Nat) : Int) - 1) n z);
    (callA Try.prog ⟨CPrt S, fun _ => false, LL_ck κ1 φ1 (LL_tz κ2 φ2 (LL_wA κ3 φ3 noL))⟩ 10 10 20 [.agg [.val (.bool false), .val (.string s)]] = (bif S.ok s then (bif κ1 false s (S.len (S.vs s)) (S.row (S.vs s)) rcP then (bif κ2 false s z.length z then (bif decide (((n : Nat) : Int) = 0) then some (.val (.string (ByteArray.mk #[(48 : UInt8)]))) else (bif inR .i64 (((n : Nat) : Int) - 1) then (bif κ3 (((n : Nat) : Int) - 1) n z then (bif w.2.length == 0 then none else (bif decide ((0 : Int) < (w.2.length : Int)) && decide ((w.2.length : Int) ≤ 9223372036854775807) && decide ((w.2.length : Int).toNat ≤ w.2.length) && w.2.all (inR .u8) && true then some (.val (.string (ofBytes (w.2.take (w.2.length : Int).toNat)))) else none)) else none) else none)) else none) else none) else none)) := by kernel_rfl
theorem print_t (S : Sg) (κ1 : KT_ck) (φ1 : FT_ck) (κ2 : KT_tz) (φ2 : FT_tz) (κ3 : KT_wB) (φ3 : FT_wB) (s : ByteArray) : letI z := (φ1 true s (S.len (S.vs s)) (S.row (S.vs s))); letI n := (φ2 true s z.length z); letI w := (φ3 (((n : Nat) : Int) - 1) n z [(45 : Int)]);
    (callA Try.prog ⟨CPrt S, fun _ => false, LL_ck κ1 φ1 (LL_tz κ2 φ2 (LL_wB κ3 φ3 noL))⟩ 10 10 20 [.agg [.val (.bool true), .val (.string s)]] = (bif S.ok s then (bif κ1 true s (S.len (S.vs s)) (S.row (S.vs s)) rcP then (bif κ2 true s z.length z then (bif decide (((n : Nat) : Int) = 0) then some (.val (.string (ByteArray.mk #[(48 : UInt8)]))) else (bif inR .i64 (((n : Nat) : Int) - 1) then (bif κ3 (((n : Nat) : Int) - 1) n z [(45 : Int)] then (bif w.2.length == 0 then none else (bif decide ((0 : Int) < (w.2.length : Int)) && decide ((w.2.length : Int) ≤ 9223372036854775807) && decide ((w.2.length : Int).toNat ≤ w.2.length) && w.2.all (inR .u8) && true then some (.val (.string (ofBytes (w.2.take (w.2.length : Int).toNat)))) else none)) else none) else none)) else none) else none) else none)) := by kernel_rfl
def tLoad0 : List AV → Option (Bool × AV) := fun args => match args with | [.val (.string s)] => some (okt s && decide (vS s = 0), .lst false 67 0 (lim [])) | _ => none
def CPr0 : FuncId → List AV → Option (Bool × AV) := addC 33 tLoad0 noC
theorem print_0 (b : Bool) (s : ByteArray) : callA Try.prog ⟨CPr0, fun _ => false, noL⟩ 10 10 20 [.agg [.val (.bool b), .val (.string s)]] = (bif okt s && decide (vS s = (0 : Nat)) then some (.val (.string (ByteArray.mk #[(48 : UInt8)]))) else none) := by kernel_rfl
def tP0 : List AV → Option (Bool × AV) := fun args => match args with | [.agg [.val (.bool b), .val (.string s)]] => some (okt s && decide (vS s = 0), .val (.string ⟨#[48]⟩)) | _ => none
def tPt (c : Bool) (w0 : List Int) : List AV → Option (Bool × AV) := fun args => match args with | [.agg [.val (.bool b), .val (.string s)]] => some (okt s && (b == c) && !decide (vS s = 0), .val (.string (ofBytes (w0 ++ (dp (dl (vS s)) (vS s)).reverse)))) | _ => none
theorem eLoad0 : Entry Try.prog 33 tLoad0 := entry_less eLoad fun args r h => by
  unfold tLoad0 at h
  split at h
  · rename_i s
    simp only [Option.some.injEq, Prod.mk.injEq, Bool.and_eq_true, decide_eq_true_eq] at h
    obtain ⟨⟨h1, h2⟩, rfl⟩ := h
    have h1 : s.size ≤ 1000000 := of_decide_eq_true h1
    have e : sg0.lmb (sg0.vs s) = .lst false 67 0 (lim []) := by
      show AV.lst false 67 (toL (vS s)).length (lim (toL (vS s))) = _
      rw [h2, toL_zero]; rfl
    show some (sg0.ok s, sg0.lmb (sg0.vs s)) = _
    rw [e]
    refine congrArg some (Prod.ext ?_ rfl)
    exact decide_eq_true (show s.size ≤ 8796093022208 by omega)
  · cases h
theorem eP0 : Entry Try.prog 20 tP0 := by
  refine entry_of (E := ⟨CPr0, fun _ => false, noL⟩) (u := 10) (d := 10) ((meets_none _).add eLoad0) loops_none mixed (by kernel_rfl) (fun args r h => ?_)
  unfold tP0 at h
  split at h
  · rename_i b s
    simp only [Option.some.injEq, Prod.mk.injEq] at h
    obtain ⟨h1, rfl⟩ := h
    rw [print_0, h1]
    rfl
  · cases h
theorem CPrt_ok : Meets Try.prog (CPrt sg0) := (meets_none _).add eLoad
theorem trim_dp {n j r : Nat} (h0 : n ≠ 0) (hj : n < 10 ^ j) (h1 : r ≤ j) (h2 : ∀ i, r ≤ i → i < j → (dp j n).getD i 0 = 48) (h3 : r = 0 ∨ (dp j n).getD (r - 1) 0 ≠ 48) : r = dl n ∧ (dp j n).take r = dp (dl n) n := by
  have hl := dl_le hj
  have hp := dl_pos h0
  have ht := dp_top h0
  rw [dp_get _ _ _ (by omega)] at ht
  have hr : r = dl n := by
    rcases Nat.lt_trichotomy r (dl n) with h | h | h
    · exfalso
      have := h2 (dl n - 1) (by omega) (by omega)
      rw [dp_get _ _ _ (by omega)] at this
      exact ht this
    · exact h
    · exfalso
      rcases h3 with h3 | h3
      · omega
      · apply h3
        rw [dp_get _ _ _ (by omega), Nat.div_eq_of_lt (Nat.lt_of_lt_of_le (dl_lt n) (Nat.pow_le_pow_right (by decide) (by omega)))]
        rfl
  refine ⟨hr, ?_⟩
  rw [dp_more hj, hr]
  exact List.take_left' (dp_len _ _)
theorem all_u8 {l : List Int} (h : ∀ z ∈ l, ∃ c : Nat, c < 256 ∧ z = (c : Int)) : l.all (inR .u8) = true := by
  rw [List.all_eq_true]
  intro z hz
  obtain ⟨c, hc, rfl⟩ := h z hz
  unfold inR
  rw [Bool.and_eq_true, decide_eq_true_eq, decide_eq_true_eq]
  exact ⟨by show (0 : Int) ≤ _; omega, by show _ ≤ (255 : Int); omega⟩
theorem pr_mid (b : Bool) (s : ByteArray) (h1 : s.size ≤ 1000000) (h0 : vS s ≠ 0) : cond_ck b s (toL (vS s)).length (lim (toL (vS s))) rcP = true ∧
    ∃ j, j ≤ 1000000000 ∧ phi_ck b s (toL (vS s)).length (lim (toL (vS s))) = dp j (vS s) ∧ cond_tz b s j (dp j (vS s)) = true ∧ phi_tz b s j (dp j (vS s)) = dl (vS s) ∧ (dp j (vS s)).take (dl (vS s)) = dp (dl (vS s)) (vS s) ∧ dl (vS s) ≤ j := by
  have hp : pre_ck (toL (vS s)).length (lim (toL (vS s))) rcP := ⟨rfl, vS s, s.size, h0, vs_pow s, by omega, rfl, rfl⟩
  refine ⟨cond_ck_eq b s hp, ?_⟩
  obtain ⟨n, j, e1, e2, hj, hn, hz, _⟩ := phi_ck_spec b s hp
  have en : n = vS s := by
    have h := num_toL n
    rw [← e1, ← e2, num_toL] at h
    exact h.symm
  subst en
  have hq : pre_tz b s j (dp j (vS s)) := ⟨by rw [dp_len]; exact Nat.le_refl _, by rw [dp_len]; omega⟩
  obtain ⟨_, k1, k2, k3⟩ := phi_tz_spec b s j (dp j (vS s)) hq
  obtain ⟨t1, t2⟩ := trim_dp h0 hn k1 k2 k3
  rw [t1] at t2
  exact ⟨j, hj, hz, cond_tz_eq _ _ _ _ hq, t1, t2, dl_le hn⟩
theorem ePt : Entry Try.prog 20 (tPt true [45]) := by
  refine entry_of (E := ⟨CPrt sg0, fun _ => false, LL_ck cond_ck phi_ck (LL_tz cond_tz phi_tz (LL_wB cond_wB phi_wB noL))⟩) (u := 10) (d := 10) CPrt_ok (LL_ck_ok (LL_tz_ok (LL_wB_ok LOk.none))).ok mixed (by kernel_rfl) (fun args r h => ?_)
  unfold tPt at h
  split at h
  · rename_i b s
    simp only [Option.some.injEq, Prod.mk.injEq, Bool.and_eq_true, beq_iff_eq, Bool.not_eq_true', decide_eq_false_iff_not] at h
    obtain ⟨⟨⟨h1, rfl⟩, h0⟩, rfl⟩ := h
    have h1 : s.size ≤ 1000000 := of_decide_eq_true h1
    obtain ⟨c1, j, hj, e1, c2, e2, e3, hl⟩ := pr_mid true s h1 h0
    have hp := dl_pos h0
    have hv : sg0.vs s = vS s := rfl
    have hsl : sg0.len (sg0.vs s) = (toL (vS s)).length := rfl
    have hsr : sg0.row (sg0.vs s) = lim (toL (vS s)) := rfl
    have hok : sg0.ok s = true := decide_eq_true (show s.size ≤ 8796093022208 by omega)
    have hq : pre_wB ((dl (vS s) : Int) - 1) (dl (vS s)) (dp j (vS s)) [45] := ⟨rfl, by rw [dp_len]; exact hl, by rw [dp_len]; omega, by show 1 ≤ _; omega⟩
    have hw := (phi_wB_spec _ _ _ _ hq).2
    unfold post_wB at hw
    rw [e3] at hw
    have hcall := print_t sg0 cond_ck phi_ck cond_tz phi_tz cond_wB phi_wB s
    simp only [hsl, hsr, e1, dp_len, e2, hw] at hcall
    rw [hcall, hok, c1, c2, cond_wB_eq _ _ _ _ hq, dF (show ¬ ((dl (vS s) : Nat) : Int) = 0 by omega), i64T (z := ((dl (vS s) : Nat) : Int) - 1) (by omega), Int.toNat_natCast, List.take_length]
    have hlen : ([45] ++ (dp (dl (vS s)) (vS s)).reverse).length = dl (vS s) + 1 := by rw [List.length_append, List.length_reverse, dp_len]; show 1 + _ = _; omega
    rw [hlen, dT (show (0 : Int) < ((dl (vS s) + 1 : Nat) : Int) by omega), dT (show ((dl (vS s) + 1 : Nat) : Int) ≤ 9223372036854775807 by omega), dT (Nat.le_refl _), all_u8 (fun z hz => by
      rcases List.mem_append.1 hz with h | h
      · rw [List.mem_singleton] at h; exact ⟨45, by decide, h⟩
      · exact dp_u8 _ _ z h)]
    rfl
  · cases h
theorem ePf : Entry Try.prog 20 (tPt false []) := by
  refine entry_of (E := ⟨CPrt sg0, fun _ => false, LL_ck cond_ck phi_ck (LL_tz cond_tz phi_tz (LL_wA cond_wA phi_wA noL))⟩) (u := 10) (d := 10) CPrt_ok (LL_ck_ok (LL_tz_ok (LL_wA_ok LOk.none))).ok mixed (by kernel_rfl) (fun args r h => ?_)
  unfold tPt at h
  split at h
  · rename_i b s
    simp only [Option.some.injEq, Prod.mk.injEq, Bool.and_eq_true, beq_iff_eq, Bool.not_eq_true', decide_eq_false_iff_not] at h
    obtain ⟨⟨⟨h1, rfl⟩, h0⟩, rfl⟩ := h
    have h1 : s.size ≤ 1000000 := of_decide_eq_true h1
    obtain ⟨c1, j, hj, e1, c2, e2, e3, hl⟩ := pr_mid false s h1 h0
    have hp := dl_pos h0
    have hsl : sg0.len (sg0.vs s) = (toL (vS s)).length := rfl
    have hsr : sg0.row (sg0.vs s) = lim (toL (vS s)) := rfl
    have hok : sg0.ok s = true := decide_eq_true (show s.size ≤ 8796093022208 by omega)
    have hq : pre_wA ((dl (vS s) : Int) - 1) (dl (vS s)) (dp j (vS s)) := ⟨rfl, hp, by rw [dp_len]; exact hl, by rw [dp_len]; omega⟩
    have hw := (phi_wA_spec _ _ _ hq).2
    unfold post_wA at hw
    rw [e3] at hw
    have hcall := print_f sg0 cond_ck phi_ck cond_tz phi_tz cond_wA phi_wA s
    simp only [hsl, hsr, e1, dp_len, e2, hw] at hcall
    rw [hcall, hok, c1, c2, cond_wA_eq _ _ _ hq, dF (show ¬ ((dl (vS s) : Nat) : Int) = 0 by omega), i64T (z := ((dl (vS s) : Nat) : Int) - 1) (by omega), Int.toNat_natCast, List.take_length, List.length_reverse, dp_len, dT (show (0 : Int) < ((dl (vS s) : Nat) : Int) by omega), dT (show ((dl (vS s) : Nat) : Int) ≤ 9223372036854775807 by omega), dT (Nat.le_refl _), all_u8 (dp_u8 _ _), show (dl (vS s) == 0) = false by rw [beq_eq_false_iff_ne]; omega]
    rfl
  · cases h
theorem ePrint : Entry Try.prog 20 (tPrt sg0 txt) := by
  intro args r h
  have h' := h
  unfold tPrt at h'
  split at h'
  · rename_i b s
    simp only [Option.some.injEq, Prod.mk.injEq] at h'
    obtain ⟨h1, rfl⟩ := h'
    have hv : sg0.val b s = if b = true then -(vS s : Int) else (vS s : Int) := rfl
    by_cases h0 : vS s = 0
    · refine eP0 _ _ ?_
      have e : txt (sg0.val b s) = ⟨#[48]⟩ := by
        unfold txt
        rw [if_pos (by rw [hv, h0]; cases b <;> rfl)]
      show some (okt s && decide (vS s = 0), _) = _
      rw [h1, dT h0, e]; rfl
    · cases b with
      | true =>
        refine ePt _ _ ?_
        have e : txt (sg0.val true s) = ofBytes ([45] ++ (dp (dl (vS s)) (vS s)).reverse) := by
          have h2 : sg0.val true s = -(vS s : Int) := rfl
          unfold txt
          rw [h2, if_neg (by omega), if_pos (show -(vS s : Int) < 0 by omega), Int.natAbs_neg, Int.natAbs_natCast]
        show some (okt s && (true == true) && !decide (vS s = 0), _) = _
        rw [h1, dF h0, e]; rfl
      | false =>
        refine ePf _ _ ?_
        have e : txt (sg0.val false s) = ofBytes ([] ++ (dp (dl (vS s)) (vS s)).reverse) := by
          have h2 : sg0.val false s = (vS s : Int) := rfl
          unfold txt
          rw [h2, if_neg (by omega), if_neg (show ¬ (vS s : Int) < 0 by omega), Int.natAbs_natCast]
        show some (okt s && (false == false) && !decide (vS s = 0), _) = _
        rw [h1, dF h0, e]; rfl
  · cases h'
end
end Go.Proofs.Ytibaendebbicjaa.L
namespace Go.Proofs.Ytibaendebbicjaa.L
open Go Go.V Go.RowKit Go.Proofs.Ytibaendebbicjaa.Sp Go.Proofs.Ytibaendebbicjaa.F
open Go.Proofs (Try.prog)
noncomputable section
abbrev p_ma : List Bool := [false, true, false, true, true, true]
def sh_ma (y : Int) (zs : List Int) (c : Int) (xs : List Int) (n : Int) (i : Int) : List AV := slots 44 [(1, .val (.int .u32 y)), (7, .sl false 67 0 0 zs.length), (8, .val (.int .u64 c)), (17, .lst false 67 xs.length (lim xs)), (18, .val (.int .i64 n)), (19, .val (.int .i64 i))]
def hp_ma (y : Int) (zs : List Int) (c : Int) (xs : List Int) (n : Int) (i : Int) : Hp := [.row (.ints .u32 zs) 67 .live]
theorem body_ma : subC Try.prog 38 p_ma = some (.loop (lb 38 p_ma)) := by kernel_rfl
theorem code_ma : subC Try.prog 38 (false :: p_ma) = some (lb 38 p_ma) := by kernel_rfl
theorem round_ma  (y : Int) (zs : List Int) (c : Int) (xs : List Int) (n : Int) (i : Int) : roundA Try.prog EL0 38 [1, 7, 8, 17, 18, 19] (lb 38 p_ma) (false :: p_ma) (sh_ma y zs c xs n i) (hp_ma y zs c xs n i) =
    (bif decide (i < n) then (bif decide ((0 : Int) ≤ i) && decide (i < (↑xs.length : Int)) then (bif inR IntKind.u64 (xs.getD i.toNat (0 : Int)) then (bif inR IntKind.u64 y then (bif decide (zs.length * (1 : Nat) ≤ zs.length) && roomA Try.prog (zs.length + (1 : Nat)) (67 : Nat) && true then (bif inR IntKind.i64 (i + (1 : Int)) then some (.normal, slots 44 [(1, (.val (.int .u32 y))), (7, (.sl false 67 0 0 (zs.length + (1 : Nat)))), (8, (.val (.int .u64 ((IntKind.u64.wrap (c + IntKind.u64.wrap (xs.getD i.toNat (0 : Int) * y))).fdiv (4294967296 : Int))))), (17, (.lst false 67 xs.length (lim xs))), (18, (.val (.int .i64 n))), (19, (.val (.int .i64 (i + (1 : Int)))))], [(.row (.ints .u32 (List.take (zs.length * (1 : Nat)) zs ++ [IntKind.u32.wrap (IntKind.u64.wrap (c + IntKind.u64.wrap (xs.getD i.toNat (0 : Int) * y)))])) 67 .live)]) else none) else none) else none) else none) else none) else some ((.exit 0), slots 44 [(1, (.val (.int .u32 y))), (7, (.sl false 67 0 0 zs.length)), (8, (.val (.int .u64 c))), (17, (.lst false 67 xs.length (lim xs))), (18, (.val (.int .i64 n))), (19, (.val (.int .i64 i)))], [(.row (.ints .u32 zs) 67 .live)])) := by kernel_rfl
theorem step_ma {y : Int} {zs : List Int} {c : Int} {xs : List Int} {n : Int} {i : Int} {e : Ex} {T : List AV} {H : Hp} (h : roundA Try.prog EL0 38 [1, 7, 8, 17, 18, 19] (lb 38 p_ma) (false :: p_ma) (sh_ma y zs c xs n i) (hp_ma y zs c xs n i) = some (e, T, H)) : V.Ends Try.prog false 0 0 (lb 38 p_ma) (sh_ma y zs c xs n i) (hp_ma y zs c xs n i) e T H :=
  round_ends (meets_none _) loops_none mixed code_ma h
def pre_ma (y : Int) (zs : List Int) (c : Int) (xs : List Int) (n i : Int) : Prop := okL xs ∧ xs.length ≤ 8796093022208 ∧ n = xs.length ∧ i = 0 ∧ zs = [] ∧ 0 ≤ y ∧ y < 4294967296 ∧ 0 ≤ c ∧ c < 4294967296
def post_ma (y : Int) (zs : List Int) (c : Int) (xs : List Int) (n i : Int) (r : List Int × Int × Int) : Prop := okL r.1 ∧ r.1.length = xs.length ∧ ∃ k : Nat, k < 4294967296 ∧ r.2.1 = k ∧ vL r.1 + 4294967296 ^ xs.length * k = vL xs * y.toNat + c.toNat
theorem ma_go (xs : List Int) (y a : Nat) (hl : okL xs) (hb : xs.length ≤ 8796093022208) (hy : y < 4294967296) (d : Nat) : ∀ (i c : Nat) (out : List Int), i + d = xs.length → okL out → out.length = i → c < 4294967296 →
    vL out + 4294967296 ^ i * c = vL (xs.take i) * y + a →
    ∃ r : List Int × Int × Int, LoopTo Try.prog (lb 38 p_ma) (sh_ma y out c xs xs.length i) (hp_ma y out c xs xs.length i) (.exit 0) (sh_ma y r.1 r.2.1 xs xs.length r.2.2) (hp_ma y r.1 r.2.1 xs xs.length r.2.2) ∧
      okL r.1 ∧ r.1.length = xs.length ∧ ∃ k : Nat, k < 4294967296 ∧ r.2.1 = k ∧ vL r.1 + 4294967296 ^ xs.length * k = vL xs * y + a := by
  induction d with
  | zero =>
    intro i c out hi hok hlen hc hv
    have hi' : i = xs.length := by omega
    subst hi'
    refine ⟨(out, (c : Int), (xs.length : Int)), .last (step_ma ?_) (by intro h; cases h), hok, hlen, c, hc, rfl, ?_⟩
    · rw [round_ma, dF (show ¬ ((xs.length : Int) < xs.length) by omega)]
      rfl
    · rw [hv, List.take_length]
  | succ d ih =>
    intro i c out hi hok hlen hc hv
    have hil : i < xs.length := by omega
    obtain ⟨x, hx, hex, hrx⟩ := getD_limb hl i hil
    have ht := vL_take_succ xs i hil
    rw [hex, Int.toNat_natCast] at ht
    have hxy : x * y ≤ 4294967295 * 4294967295 := Nat.mul_le_mul (by omega) (by omega)
    have hr := round_ma y out c xs xs.length i
    have e1 : (x : Int) * (y : Int) = ((x * y : Nat) : Int) := (Int.natCast_mul _ _).symm
    rw [Int.toNat_natCast, hrx, e1, u64w', Nat.mod_eq_of_lt (show x * y < 18446744073709551616 by omega), ← Int.natCast_add, u64w', Nat.mod_eq_of_lt (show c + x * y < 18446744073709551616 by omega), u32w, fdiv32, dT (show (i : Int) < xs.length by omega), dT (show (0 : Int) ≤ (i : Int) by omega), u64T (show 0 ≤ (x : Int) ∧ (x : Int) ≤ 18446744073709551615 by omega), u64T (show 0 ≤ (y : Int) ∧ (y : Int) ≤ 18446744073709551615 by omega), i64T (show -9223372036854775808 ≤ (i : Int) + 1 ∧ (i : Int) + 1 ≤ 9223372036854775807 by omega), Nat.mul_one, dT (Nat.le_refl out.length), room64 _ (show out.length + 1 ≤ 35184372088832 by omega), List.take_length] at hr
    have hs : vL (out ++ [(((c + x * y) % 4294967296 : Nat) : Int)]) + 4294967296 ^ (i + 1) * ((c + x * y) / 4294967296) = vL (xs.take (i + 1)) * y + a := by
      rw [vL_snoc, hlen, Int.toNat_natCast, Nat.pow_succ, ht]
      have h1 := carry_step (n := c + x * y) hv
      have h2 : (vL (xs.take i) + 4294967296 ^ i * x) * y = vL (xs.take i) * y + 4294967296 ^ i * (x * y) := by rw [Nat.add_mul, Nat.mul_assoc]
      rw [h2]
      rw [Nat.mul_add (4294967296 ^ i) c] at h1
      omega
    obtain ⟨r, h1, h2⟩ := ih (i + 1) ((c + x * y) / 4294967296) (out ++ [(((c + x * y) % 4294967296 : Nat) : Int)]) (by omega) (okL_append.2 ⟨hok, by rw [okL_cons]; exact ⟨limbN _, okL_nil⟩⟩) (by simp [hlen]) (by rw [Nat.div_lt_iff_lt_mul (by decide)]; omega) hs
    refine ⟨r, .more (step_ma (hr.trans ?_)) h1, h2⟩
    unfold sh_ma hp_ma
    rw [List.length_append]
    rfl
theorem loop_ma (y : Int) (zs : List Int) (c : Int) (xs : List Int) (n i : Int) (h : pre_ma y zs c xs n i) : ∃ r : List Int × Int × Int, LoopTo Try.prog (lb 38 p_ma) (sh_ma y zs c xs n i) (hp_ma y zs c xs n i) (.exit 0) (sh_ma y r.1 r.2.1 xs n r.2.2) (hp_ma y r.1 r.2.1 xs n r.2.2) ∧ post_ma y zs c xs n i r := by
  obtain ⟨h1, h2, rfl, rfl, rfl, h3, h4, h5, h6⟩ := h
  obtain ⟨y, rfl⟩ := Int.eq_ofNat_of_zero_le h3
  obtain ⟨c, rfl⟩ := Int.eq_ofNat_of_zero_le h5
  exact ma_go xs y c h1 h2 (by omega) xs.length 0 c [] (by omega) okL_nil rfl (by omega) (by simp [vL_nil])
def told_ma (κ : Int → List Int → Int → List Int → Int → Int → Bool) (φ : Int → List Int → Int → List Int → Int → Int → List Int × Int × Int) (T : List AV) (H : Hp) : Option (Bool × Ex × List AV × Hp) :=
  match lget T 1, lget T 7, lget T 8, lget T 17, lget T 18, lget T 19, H with
  | .val (.int .u32 y), .sl false 67 0 0 m_zs, .val (.int .u64 c), .lst false 67 m_xs f_xs, .val (.int .i64 n), .val (.int .i64 i), [.row (.ints .u32 zs) 67 .live] => bif T.length == 44 then some (okB m_xs f_xs && decide (m_zs = zs.length) && κ y zs c (rowOf m_xs f_xs) n i, .exit 0, sh_ma y ((φ y zs c (rowOf m_xs f_xs) n i).1) ((φ y zs c (rowOf m_xs f_xs) n i).2.1) (rowOf m_xs f_xs) n ((φ y zs c (rowOf m_xs f_xs) n i).2.2), hp_ma y ((φ y zs c (rowOf m_xs f_xs) n i).1) ((φ y zs c (rowOf m_xs f_xs) n i).2.1) (rowOf m_xs f_xs) n ((φ y zs c (rowOf m_xs f_xs) n i).2.2)) else none
  | _, _, _, _, _, _, _ => none
abbrev KT_ma : Type := Int → List Int → Int → List Int → Int → Int → Bool
abbrev FT_ma : Type := Int → List Int → Int → List Int → Int → Int → List Int × Int × Int
def LL_ma (κ : KT_ma) (φ : FT_ma) (L : LTab) : LTab := addLn 0 38 p_ma [1, 7, 8, 17, 18, 19] (told_ma κ φ) L
def phi_ma (y : Int) (zs : List Int) (c : Int) (xs : List Int) (n : Int) (i : Int) : List Int × Int × Int := Classical.epsilon fun ρ => LoopTo Try.prog (lb 38 p_ma) (sh_ma y zs c xs n i) (hp_ma y zs c xs n i) (.exit 0) (sh_ma y (ρ.1) (ρ.2.1) xs n (ρ.2.2)) (hp_ma y (ρ.1) (ρ.2.1) xs n (ρ.2.2)) ∧ post_ma y zs c xs n i ρ
theorem phi_ma_spec (y : Int) (zs : List Int) (c : Int) (xs : List Int) (n : Int) (i : Int) (h : pre_ma y zs c xs n i) : LoopTo Try.prog (lb 38 p_ma) (sh_ma y zs c xs n i) (hp_ma y zs c xs n i) (.exit 0) (sh_ma y ((phi_ma y zs c xs n i).1) ((phi_ma y zs c xs n i).2.1) xs n ((phi_ma y zs c xs n i).2.2)) (hp_ma y ((phi_ma y zs c xs n i).1) ((phi_ma y zs c xs n i).2.1) xs n ((phi_ma y zs c xs n i).2.2)) ∧ post_ma y zs c xs n i (phi_ma y zs c xs n i) := Classical.epsilon_spec (loop_ma y zs c xs n i h)
def cond_ma (y : Int) (zs : List Int) (c : Int) (xs : List Int) (n : Int) (i : Int) : Bool := @decide (pre_ma y zs c xs n i) (Classical.propDecidable _)
theorem cond_ma_eq (y : Int) (zs : List Int) (c : Int) (xs : List Int) (n : Int) (i : Int) (h : pre_ma y zs c xs n i) : cond_ma y zs c xs n i = true := @decide_eq_true _ (Classical.propDecidable _) h
theorem told_ma_ok (T : List AV) (H : Hp) (e : Ex) (T1 : List AV) (H1 : Hp) (h : told_ma cond_ma phi_ma T H = some (true, e, T1, H1)) : V.Ends Try.prog false 0 0 (.loop (lb 38 p_ma)) T H e T1 H1 := by
  unfold told_ma at h
  split at h
  · rename_i y m_zs c m_xs f_xs n i zs h1 h7 h8 h17 h18 h19
    rw [Bool.cond_eq_ite] at h
    split at h
    · rename_i hlen
      rw [beq_iff_eq] at hlen
      simp only [Option.some.injEq, Prod.mk.injEq, Bool.and_eq_true, decide_eq_true_eq] at h
      obtain ⟨⟨⟨k1, k2⟩, k3⟩, rfl, rfl, rfl⟩ := h
      have kc := @of_decide_eq_true _ (Classical.propDecidable _) k3
      refine Ends.pre (phi_ma_spec y zs c (rowOf m_xs f_xs) n i kc).1.ends (fun α B w D ys hr => slots_rel hlen (fun p hp y hy => ?_) hr)
      simp only [List.mem_cons, List.not_mem_nil, or_false] at hp
      rcases hp with rfl | rfl | rfl | rfl | rfl | rfl
      · rw [h1] at hy; exact hy
      · rw [h7] at hy; rw [← k2]; exact hy
      · rw [h8] at hy; exact hy
      · rw [h17] at hy; rw [rowOf_len]; exact row_norm cells67 k1 hy
      · rw [h18] at hy; exact hy
      · rw [h19] at hy; exact hy
    · cases h
  · cases h
theorem LL_ma_ok {L : LTab} (h : LOk Try.prog L) : LOk Try.prog (LL_ma cond_ma phi_ma L) := h.add2n body_ma told_ma_ok
theorem ma_call (S : Sg) (κ : KT_ma) (φ : FT_ma) (xs : List Int) (y a : Int) : letI q_1 := (φ y [] a (rowOf xs.length (lim xs)) (↑xs.length : Int) (0 : Int)); letI q_2 := (List.take (q_1.fst.length * (1 : Nat)) q_1.fst ++ [IntKind.u32.wrap q_1.snd.fst]); letI q_3 := (q_1.fst.length + (1 : Nat));
    (callA Try.prog ⟨addC 65 (tTrim S) noC, Kall, LL_ma κ φ noL⟩ 10 10 38 [.lst false 67 xs.length (lim xs), .val (.int .u32 y), .val (.int .u32 a)] = (bif inR IntKind.i64 ((↑xs.length : Int) + (1 : Int)) then (bif decide ((4 : Int) * ((↑xs.length : Int) + (1 : Int)) ≤ (281474976710656 : Int)) && decide ((↑xs.length : Int) + (1 : Int) ≤ (9223372036854775807 : Int)) then (bif inR IntKind.u64 a then (bif okB xs.length (lim xs) && true && κ y [] a (rowOf xs.length (lim xs)) (↑xs.length : Int) (0 : Int) then (bif decide (q_1.fst.length * (1 : Nat) ≤ q_1.fst.length) && roomA Try.prog q_3 (67 : Nat) && true then (bif decide ((0 : Nat) + q_3 * (1 : Nat) ≤ q_2.length) then (bif S.okr q_3 (lim q_2) then some (.lst false 67 (S.len (S.num q_3 (lim q_2))) (S.row (S.num q_3 (lim q_2)))) else none) else none) else none) else none) else none) else none) else none)) := by kernel_rfl
def tMuladd (S : Sg) : List AV → Option (Bool × AV) := fun args => match args with | [.lst _ 67 m f, .val (.int .u32 y), .val (.int .u32 a)] => some (S.oks m f && inU y && inU a, S.lmb (S.num m f * y.toNat + a.toNat)) | _ => none
theorem eMuladd : Entry Try.prog 38 (tMuladd sg0) := by
  refine entry_to (E := ⟨addC 65 (tTrim sg0) noC, Kall, LL_ma cond_ma phi_ma noL⟩) (u := 10) (d := 10) ((meets_none _).add eTrim) (LL_ma_ok LOk.none).ok (by kernel_rfl) (fun args r h => ?_)
  unfold tMuladd at h
  split at h
  · rename_i m f y a
    simp only [Option.some.injEq, Prod.mk.injEq, Bool.and_eq_true] at h
    obtain ⟨⟨⟨h1, h2⟩, h3⟩, rfl⟩ := h
    obtain ⟨a1, a2, a3, a4⟩ := oks_out h1
    unfold inU at h2 h3
    rw [Bool.and_eq_true, decide_eq_true_eq, decide_eq_true_eq] at h2 h3
    have hp : pre_ma y [] a (rowOf m f) (rowOf m f).length 0 := ⟨a2, a3, rfl, rfl, rfl, h2.1, h2.2, h3.1, h3.2⟩
    have hs := (phi_ma_spec _ _ _ _ _ _ hp).2
    have hcall := ma_call sg0 cond_ma phi_ma (rowOf m f) y a
    have key : callA Try.prog ⟨addC 65 (tTrim sg0) noC, Kall, LL_ma cond_ma phi_ma noL⟩ 10 10 38 [.lst false 67 (rowOf m f).length (lim (rowOf m f)), .val (.int .u32 y), .val (.int .u32 a)] = some (sg0.lmb (vL (rowOf m f) * y.toNat + a.toNat)) := by
      rw [hcall]
      simp only [rowOf_lim', Nat.mul_one, Nat.zero_add]
      rw [cond_ma_eq _ _ _ _ _ _ hp, okB_lim a2]
      generalize phi_ma y [] a (rowOf m f) (rowOf m f).length 0 = r at *
      obtain ⟨g1, g2, k, g3, g4, g5⟩ := hs
      have e : IntKind.u32.wrap r.2.1 = (k : Int) := by rw [g4, u32w, Nat.mod_eq_of_lt (by omega)]
      have l1 : (r.1 ++ [(k : Int)]).length = r.1.length + 1 := by rw [List.length_append]; rfl
      have o1 : okL (r.1 ++ [(k : Int)]) := okL_append.2 ⟨g1, by rw [okL_cons]; exact ⟨by omega, okL_nil⟩⟩
      have v1 : vL (r.1 ++ [(k : Int)]) = vL (rowOf m f) * y.toNat + a.toNat := by rw [vL_snoc, g2, Int.toNat_natCast, g5]
      rw [e, List.take_length, l1, i64T (z := ((rowOf m f).length : Int) + 1) (by omega), dT (show (4 : Int) * (((rowOf m f).length : Int) + 1) ≤ 281474976710656 by omega), dT (show ((rowOf m f).length : Int) + 1 ≤ 9223372036854775807 by omega), u64T (show 0 ≤ a ∧ a ≤ 18446744073709551615 by omega), room64 _ (by omega), dT (Nat.le_refl r.1.length), dT (Nat.le_refl (r.1.length + 1)), ← l1, okr_lim o1 (by omega), num_lim, v1]
      rfl
    refine ⟨_, _, key, fun B w ys hr => ?_, fun B w y hr => by rw [a4]; exact hr⟩
    obtain ⟨q, zs, rfl, q1, q2⟩ := hr
    exact ⟨q, _, rfl, norm_row a1 q1, q2⟩
  · cases h
end
end Go.Proofs.Ytibaendebbicjaa.L
namespace Go.Proofs.Ytibaendebbicjaa.L
open Go Go.V Go.RowKit Go.Proofs.Ytibaendebbicjaa.Sp Go.Proofs.Ytibaendebbicjaa.F
open Go.Proofs (Try.prog)
noncomputable section
def okd (d : ByteArray) (i : Nat) : Prop := 48 ≤ byteAt d i ∧ byteAt d i ≤ 57
def dig (d : ByteArray) (i : Nat) : Nat := (byteAt d i).toNat - 48
def vT (d : ByteArray) : Nat → Nat
  | 0 => 0
  | i + 1 => vT d i * 10 + dig d i
theorem dig_lt {d : ByteArray} {i : Nat} (h : okd d i) : dig d i < 10 := by have := h.1; have := h.2; unfold dig; omega
theorem vT_lt {d : ByteArray} : ∀ {i : Nat}, (∀ j, j < i → okd d j) → vT d i < 10 ^ i
  | 0, _ => by show 0 < 1; decide
  | i + 1, h => by
    have h1 := vT_lt (d := d) (i := i) (fun j hj => h j (by omega))
    have h2 := dig_lt (h i (by omega))
    show vT d i * 10 + dig d i < _
    rw [Nat.pow_succ]
    omega
abbrev p_iP : List Bool := [false, true, false, true, false, true, false, false, true, false, true, true, true, true, true]
def sh_iP (er : Int) (d : ByteArray) (ng : Bool) (xs : List Int) (i : Int) (n : Int) (y : Int) (k : Int) (rb : Bool) (rs : ByteArray) : List AV := slots 78 [(2, .ptr 0 0), (3, .val (.int .i64 er)), (4, .val (.string d)), (5, .val (.bool ng)), (6, .lst false 67 xs.length (lim xs)), (7, .val (.int .i64 i)), (8, .val (.int .u32 n)), (9, .val (.int .u32 y)), (10, .val (.int .i64 k))]
def hp_iP (er : Int) (d : ByteArray) (ng : Bool) (xs : List Int) (i : Int) (n : Int) (y : Int) (k : Int) (rb : Bool) (rs : ByteArray) : Hp := [.row (.cells [.val (.bool rb), .val (.string rs)]) 40 .live]
theorem body_iP : subC Try.prog 16 p_iP = some (.loop (lb 16 p_iP)) := by kernel_rfl
theorem code_iP : subC Try.prog 16 (false :: p_iP) = some (lb 16 p_iP) := by kernel_rfl
theorem round_iP  (er : Int) (d : ByteArray) (ng : Bool) (xs : List Int) (i : Int) (n : Int) (y : Int) (k : Int) (rb : Bool) (rs : ByteArray) :
    (roundA Try.prog EL0 16 [2, 3, 4, 5, 6, 7, 8, 9, 10] (lb 16 p_iP) (false :: p_iP) (sh_iP er d ng xs i n y k rb rs) (hp_iP er d ng xs i n y k rb rs) = (bif decide (k < (9 : Int)) then (bif decide (i < (↑d.size : Int)) then (bif decide ((0 : Int) ≤ i) && decide (i < (↑d.size : Int)) then (bif decide (byteAt d i.toNat < (48 : Int)) then some (.ret, slots 78 [(2, (.ptr 0 0)), (3, (.val (.int .i64 3))), (4, (.val (.string d))), (5, (.val (.bool ng))), (6, (.lst false 67 xs.length (lim xs))), (7, (.val (.int .i64 i))), (8, (.val (.int .u32 n))), (9, (.val (.int .u32 y))), (10, (.val (.int .i64 k)))], [(.row (.cells [(.val (.bool false)), (.val (.string (ByteArray.mk #[])))]) 40 .live)]) else (bif decide ((57 : Int) < byteAt d i.toNat) then some (.ret, slots 78 [(2, (.ptr 0 0)), (3, (.val (.int .i64 3))), (4, (.val (.string d))), (5, (.val (.bool ng))), (6, (.lst false 67 xs.length (lim xs))), (7, (.val (.int .i64 i))), (8, (.val (.int .u32 n))), (9, (.val (.int .u32 y))), (10, (.val (.int .i64 k)))], [(.row (.cells [(.val (.bool false)), (.val (.string (ByteArray.mk #[])))]) 40 .live)]) else (bif inR IntKind.u32 (IntKind.u8.wrap (byteAt d i.toNat - (48 : Int))) then (bif inR IntKind.i64 (i + (1 : Int)) then (bif inR IntKind.i64 (k + (1 : Int)) then some (.normal, slots 78 [(2, (.ptr 0 0)), (3, (.val (.int .i64 er))), (4, (.val (.string d))), (5, (.val (.bool ng))), (6, (.lst false 67 xs.length (lim xs))), (7, (.val (.int .i64 (i + (1 : Int))))), (8, (.val (.int .u32 (IntKind.u32.wrap (IntKind.u32.wrap ((10 : Int) * n) + IntKind.u8.wrap (byteAt d i.toNat - (48 : Int))))))), (9, (.val (.int .u32 (IntKind.u32.wrap ((10 : Int) * y))))), (10, (.val (.int .i64 (k + (1 : Int)))))], [(.row (.cells [(.val (.bool rb)), (.val (.string rs))]) 40 .live)]) else none) else none) else none))) else none) else some ((.exit 2), slots 78 [(2, (.ptr 0 0)), (3, (.val (.int .i64 er))), (4, (.val (.string d))), (5, (.val (.bool ng))), (6, (.lst false 67 xs.length (lim xs))), (7, (.val (.int .i64 i))), (8, (.val (.int .u32 n))), (9, (.val (.int .u32 y))), (10, (.val (.int .i64 k)))], [(.row (.cells [(.val (.bool rb)), (.val (.string rs))]) 40 .live)])) else some ((.exit 2), slots 78 [(2, (.ptr 0 0)), (3, (.val (.int .i64 er))), (4, (.val (.string d))), (5, (.val (.bool ng))), (6, (.lst false 67 xs.length (lim xs))), (7, (.val (.int .i64 i))), (8, (.val (.int .u32 n))), (9, (.val (.int .u32 y))), (10, (.val (.int .i64 k)))], [(.row (.cells [(.val (.bool rb)), (.val (.string rs))]) 40 .live)]))) := by kernel_rfl
theorem step_iP {er : Int} {d : ByteArray} {ng : Bool} {xs : List Int} {i : Int} {n : Int} {y : Int} {k : Int} {rb : Bool} {rs : ByteArray} {e : Ex} {T : List AV} {H : Hp} (h : roundA Try.prog EL0 16 [2, 3, 4, 5, 6, 7, 8, 9, 10] (lb 16 p_iP) (false :: p_iP) (sh_iP er d ng xs i n y k rb rs) (hp_iP er d ng xs i n y k rb rs) = some (e, T, H)) : V.Ends Try.prog false 0 0 (lb 16 p_iP) (sh_iP er d ng xs i n y k rb rs) (hp_iP er d ng xs i n y k rb rs) e T H :=
  round_ends (meets_none _) loops_none mixed code_iP h
abbrev p_iQ : List Bool := [false, true, false, true, false, true, false, false, true, false, true, true, true, true, true]
def sh_iQ (er : Int) (d : ByteArray) (ng : Bool) (xs : List Int) (i : Int) (n : Int) (y : Int) (k : Int) (rb : Bool) (rs : ByteArray) : List AV := slots 78 [(2, .ptr 0 0), (3, .val (.int .i64 er)), (4, .val (.string d)), (5, .val (.bool ng)), (6, .lst false 67 xs.length (lim xs)), (7, .val (.int .i64 i)), (8, .val (.int .u32 n)), (9, .val (.int .u32 y)), (10, .val (.int .i64 k))]
def hp_iQ (er : Int) (d : ByteArray) (ng : Bool) (xs : List Int) (i : Int) (n : Int) (y : Int) (k : Int) (rb : Bool) (rs : ByteArray) : Hp := [.row (.cells [.val (.bool rb), .val (.string rs)]) 40 .live]
theorem body_iQ : subC Try.prog 16 p_iQ = some (.loop (lb 16 p_iQ)) := by kernel_rfl
def pre_iP (er : Int) (d : ByteArray) (ng : Bool) (xs : List Int) (i n y k : Int) (rb : Bool) (rs : ByteArray) : Prop := n = 0 ∧ y = 1 ∧ k = 0 ∧ ∃ j : Nat, i = j ∧ j < d.size ∧ d.size ≤ 1000000 ∧ ∀ l, j ≤ l → l < j + 9 → l < d.size → okd d l
def grp (d : ByteArray) (j : Nat) (ρ : Int × Int × Int × Int) : Prop := ∃ k' n' : Nat, ρ.1 = ((j + k' : Nat) : Int) ∧ 0 < k' ∧ k' ≤ 9 ∧ j + k' ≤ d.size ∧ ρ.2.1 = n' ∧ n' < 10 ^ k' ∧ ρ.2.2.1 = ((10 ^ k' : Nat) : Int) ∧ vT d (j + k') = vT d j * 10 ^ k' + n'
def post_iP (er : Int) (d : ByteArray) (ng : Bool) (xs : List Int) (i n y k : Int) (rb : Bool) (rs : ByteArray) (ρ : Int × Int × Int × Int) : Prop := grp d i.toNat ρ
theorem p9 {k : Nat} (h : k ≤ 9) : 10 ^ k ≤ 1000000000 := Nat.le_trans (Nat.pow_le_pow_right (by decide) h) (by decide)
theorem iP_dig (er : Int) (d : ByteArray) (ng : Bool) (xs : List Int) (rb : Bool) (rs : ByteArray) {j k n : Nat} (hk : k < 9) (hj : j < d.size) (hd : d.size ≤ 1000000) (ho : okd d j) (hn : n < 10 ^ k) :
    roundA Try.prog EL0 16 [2, 3, 4, 5, 6, 7, 8, 9, 10] (lb 16 p_iP) (false :: p_iP) (sh_iP er d ng xs j n ((10 ^ k : Nat) : Int) k rb rs) (hp_iP er d ng xs j n ((10 ^ k : Nat) : Int) k rb rs) = some (.normal, sh_iP er d ng xs ((j + 1 : Nat) : Int) ((n * 10 + dig d j : Nat) : Int) ((10 ^ (k + 1) : Nat) : Int) ((k + 1 : Nat) : Int) rb rs, hp_iP er d ng xs ((j + 1 : Nat) : Int) ((n * 10 + dig d j : Nat) : Int) ((10 ^ (k + 1) : Nat) : Int) ((k + 1 : Nat) : Int) rb rs) := by
  have h9 := p9 (show k ≤ 9 by omega)
  have h91 := p9 (show k + 1 ≤ 9 by omega)
  rw [Nat.pow_succ] at h91 ⊢
  obtain ⟨o1, o2⟩ := ho
  have hdg : dig d j = (byteAt d j).toNat - 48 := rfl
  generalize hp : 10 ^ k = p at *
  rw [round_iP, Int.toNat_natCast]
  generalize hb : byteAt d j = b at *
  obtain ⟨c, rfl⟩ := Int.eq_ofNat_of_zero_le (show 0 ≤ b by omega)
  have e1 : IntKind.u8.wrap ((c : Int) - 48) = ((c - 48 : Nat) : Int) := by rw [IntKind.wrap_u8]; omega
  have e2 : IntKind.u32.wrap (10 * (n : Int)) = ((n * 10 : Nat) : Int) := by rw [IntKind.wrap_u32]; omega
  have e3 : IntKind.u32.wrap (((n * 10 : Nat) : Int) + ((c - 48 : Nat) : Int)) = ((n * 10 + (c - 48) : Nat) : Int) := by rw [IntKind.wrap_u32]; omega
  have e4 : IntKind.u32.wrap (10 * ((p : Nat) : Int)) = ((p * 10 : Nat) : Int) := by rw [IntKind.wrap_u32]; omega
  rw [Int.toNat_natCast] at hdg
  rw [e1, e2, e3, e4, hdg, dT (show (k : Int) < 9 by omega), dT (show (j : Int) < (d.size : Int) by omega), dT (show (0 : Int) ≤ (j : Int) by omega), dF (show ¬ (c : Int) < 48 by omega), dF (show ¬ (57 : Int) < (c : Int) by omega), u32T (z := ((c - 48 : Nat) : Int)) (by omega), i64T (z := (j : Int) + 1) (by omega), i64T (z := (k : Int) + 1) (by omega)]
  rfl
theorem iP_go (er : Int) (d : ByteArray) (ng : Bool) (xs : List Int) (rb : Bool) (rs : ByteArray) (j : Nat) (hj : j < d.size) (hd : d.size ≤ 1000000) (ho : ∀ l, j ≤ l → l < j + 9 → l < d.size → okd d l) (m : Nat) : ∀ (k n : Nat), k + m = 9 → j + k ≤ d.size → n < 10 ^ k → vT d (j + k) = vT d j * 10 ^ k + n → (k = 0 → True) →
    ∃ ρ : Int × Int × Int × Int, LoopTo Try.prog (lb 16 p_iP) (sh_iP er d ng xs ((j + k : Nat) : Int) n ((10 ^ k : Nat) : Int) k rb rs) (hp_iP er d ng xs ((j + k : Nat) : Int) n ((10 ^ k : Nat) : Int) k rb rs) (.exit 2) (sh_iP er d ng xs ρ.1 ρ.2.1 ρ.2.2.1 ρ.2.2.2 rb rs) (hp_iP er d ng xs ρ.1 ρ.2.1 ρ.2.2.1 ρ.2.2.2 rb rs) ∧ grp d j ρ := by
  have fin : ∀ (k n : Nat), k ≤ 9 → 0 < k → j + k ≤ d.size → n < 10 ^ k → vT d (j + k) = vT d j * 10 ^ k + n → grp d j (((j + k : Nat) : Int), (n : Int), ((10 ^ k : Nat) : Int), (k : Int)) := fun k n h1 h0 h2 h3 h4 => ⟨k, n, rfl, h0, h1, h2, rfl, h3, rfl, h4⟩
  induction m with
  | zero =>
    intro k n hk h1 h2 h3 _
    have hk : k = 9 := by omega
    subst hk
    refine ⟨_, .last (step_iP ?_) (by intro h; cases h), fin 9 n (Nat.le_refl _) (by decide) h1 h2 h3⟩
    rw [round_iP, dF (show ¬ ((9 : Nat) : Int) < 9 by decide)]
    rfl
  | succ m ih =>
    intro k n hk h1 h2 h3 _
    by_cases hs : j + k < d.size
    · have hok := ho (j + k) (by omega) (by omega) hs
      have hdl := dig_lt hok
      obtain ⟨ρ, g1, g2⟩ := ih (k + 1) (n * 10 + dig d (j + k)) (by omega) (by omega) (by rw [Nat.pow_succ]; omega) (by
        show vT d (j + k) * 10 + dig d (j + k) = _
        rw [h3, Nat.pow_succ, Nat.add_mul, Nat.mul_assoc]; omega) (fun h => trivial)
      exact ⟨ρ, .more (step_iP (iP_dig er d ng xs rb rs (by omega) hs hd hok h2)) g1, g2⟩
    · have hk0 : 0 < k := by omega
      refine ⟨_, .last (step_iP ?_) (by intro h; cases h), fin k n (by omega) hk0 h1 h2 h3⟩
      rw [round_iP, dT (show (k : Int) < 9 by omega), dF (show ¬ ((j + k : Nat) : Int) < (d.size : Int) by omega)]
      rfl
theorem loop_iP (er : Int) (d : ByteArray) (ng : Bool) (xs : List Int) (i n y k : Int) (rb : Bool) (rs : ByteArray) (h : pre_iP er d ng xs i n y k rb rs) : ∃ ρ : Int × Int × Int × Int, LoopTo Try.prog (lb 16 p_iP) (sh_iP er d ng xs i n y k rb rs) (hp_iP er d ng xs i n y k rb rs) (.exit 2) (sh_iP er d ng xs ρ.1 ρ.2.1 ρ.2.2.1 ρ.2.2.2 rb rs) (hp_iP er d ng xs ρ.1 ρ.2.1 ρ.2.2.1 ρ.2.2.2 rb rs) ∧ post_iP er d ng xs i n y k rb rs ρ := by
  obtain ⟨rfl, rfl, rfl, j, rfl, hj, hd, ho⟩ := h
  exact iP_go er d ng xs rb rs j hj hd ho 9 0 0 rfl (by omega) (by decide) (by rw [Nat.pow_zero, Nat.mul_one]; rfl) (fun _ => trivial)
def told_iP (κ : Int → ByteArray → Bool → List Int → Int → Int → Int → Int → Bool → ByteArray → Bool) (φ : Int → ByteArray → Bool → List Int → Int → Int → Int → Int → Bool → ByteArray → Int × Int × Int × Int) (T : List AV) (H : Hp) : Option (Bool × Ex × List AV × Hp) :=
  match lget T 2, lget T 3, lget T 4, lget T 5, lget T 6, lget T 7, lget T 8, lget T 9, lget T 10, H with
  | .ptr 0 0, .val (.int .i64 er), .val (.string d), .val (.bool ng), .lst false 67 m_xs f_xs, .val (.int .i64 i), .val (.int .u32 n), .val (.int .u32 y), .val (.int .i64 k), [.row (.cells [.val (.bool rb), .val (.string rs)]) 40 .live] => bif T.length == 78 then some (okB m_xs f_xs && κ er d ng (rowOf m_xs f_xs) i n y k rb rs, .exit 2, sh_iP er d ng (rowOf m_xs f_xs) ((φ er d ng (rowOf m_xs f_xs) i n y k rb rs).1) ((φ er d ng (rowOf m_xs f_xs) i n y k rb rs).2.1) ((φ er d ng (rowOf m_xs f_xs) i n y k rb rs).2.2.1) ((φ er d ng (rowOf m_xs f_xs) i n y k rb rs).2.2.2) rb rs, hp_iP er d ng (rowOf m_xs f_xs) ((φ er d ng (rowOf m_xs f_xs) i n y k rb rs).1) ((φ er d ng (rowOf m_xs f_xs) i n y k rb rs).2.1) ((φ er d ng (rowOf m_xs f_xs) i n y k rb rs).2.2.1) ((φ er d ng (rowOf m_xs f_xs) i n y k rb rs).2.2.2) rb rs) else none
  | _, _, _, _, _, _, _, _, _, _ => none
abbrev KT_iP : Type := Int → ByteArray → Bool → List Int → Int → Int → Int → Int → Bool → ByteArray → Bool
abbrev FT_iP : Type := Int → ByteArray → Bool → List Int → Int → Int → Int → Int → Bool → ByteArray → Int × Int × Int × Int
def LL_iP (κ : KT_iP) (φ : FT_iP) (L : LTab) : LTab := addLn 0 16 p_iP [2, 3, 4, 5, 6, 7, 8, 9, 10] (told_iP κ φ) L
def phi_iP (er : Int) (d : ByteArray) (ng : Bool) (xs : List Int) (i : Int) (n : Int) (y : Int) (k : Int) (rb : Bool) (rs : ByteArray) : Int × Int × Int × Int := Classical.epsilon fun ρ => LoopTo Try.prog (lb 16 p_iP) (sh_iP er d ng xs i n y k rb rs) (hp_iP er d ng xs i n y k rb rs) (.exit 2) (sh_iP er d ng xs (ρ.1) (ρ.2.1) (ρ.2.2.1) (ρ.2.2.2) rb rs) (hp_iP er d ng xs (ρ.1) (ρ.2.1) (ρ.2.2.1) (ρ.2.2.2) rb rs) ∧ post_iP er d ng xs i n y k rb rs ρ
theorem phi_iP_spec (er : Int) (d : ByteArray) (ng : Bool) (xs : List Int) (i : Int) (n : Int) (y : Int) (k : Int) (rb : Bool) (rs : ByteArray) (h : pre_iP er d ng xs i n y k rb rs) : LoopTo Try.prog (lb 16 p_iP) (sh_iP er d ng xs i n y k rb rs) (hp_iP er d ng xs i n y k rb rs) (.exit 2) (sh_iP er d ng xs ((phi_iP er d ng xs i n y k rb rs).1) ((phi_iP er d ng xs i n y k rb rs).2.1) ((phi_iP er d ng xs i n y k rb rs).2.2.1) ((phi_iP er d ng xs i n y k rb rs).2.2.2) rb rs) (hp_iP er d ng xs ((phi_iP er d ng xs i n y k rb rs).1) ((phi_iP er d ng xs i n y k rb rs).2.1) ((phi_iP er d ng xs i n y k rb rs).2.2.1) ((phi_iP er d ng xs i n y k rb rs).2.2.2) rb rs) ∧ post_iP er d ng xs i n y k rb rs (phi_iP er d ng xs i n y k rb rs) := Classical.epsilon_spec (loop_iP er d ng xs i n y k rb rs h)
def cond_iP (er : Int) (d : ByteArray) (ng : Bool) (xs : List Int) (i : Int) (n : Int) (y : Int) (k : Int) (rb : Bool) (rs : ByteArray) : Bool := @decide (pre_iP er d ng xs i n y k rb rs) (Classical.propDecidable _)
theorem cond_iP_eq (er : Int) (d : ByteArray) (ng : Bool) (xs : List Int) (i : Int) (n : Int) (y : Int) (k : Int) (rb : Bool) (rs : ByteArray) (h : pre_iP er d ng xs i n y k rb rs) : cond_iP er d ng xs i n y k rb rs = true := @decide_eq_true _ (Classical.propDecidable _) h
theorem told_iP_ok (T : List AV) (H : Hp) (e : Ex) (T1 : List AV) (H1 : Hp) (h : told_iP cond_iP phi_iP T H = some (true, e, T1, H1)) : V.Ends Try.prog false 0 0 (.loop (lb 16 p_iP)) T H e T1 H1 := by
  unfold told_iP at h
  split at h
  · rename_i er d ng m_xs f_xs i n y k rb rs h2 h3 h4 h5 h6 h7 h8 h9 h10
    rw [Bool.cond_eq_ite] at h
    split at h
    · rename_i hlen
      rw [beq_iff_eq] at hlen
      simp only [Option.some.injEq, Prod.mk.injEq, Bool.and_eq_true, decide_eq_true_eq] at h
      obtain ⟨⟨k1, k2⟩, rfl, rfl, rfl⟩ := h
      have kc := @of_decide_eq_true _ (Classical.propDecidable _) k2
      refine Ends.pre (phi_iP_spec er d ng (rowOf m_xs f_xs) i n y k rb rs kc).1.ends (fun α B w D ys hr => slots_rel hlen (fun p hp y hy => ?_) hr)
      simp only [List.mem_cons, List.not_mem_nil, or_false] at hp
      rcases hp with rfl | rfl | rfl | rfl | rfl | rfl | rfl | rfl | rfl
      · rw [h2] at hy; exact hy
      · rw [h3] at hy; exact hy
      · rw [h4] at hy; exact hy
      · rw [h5] at hy; exact hy
      · rw [h6] at hy; rw [rowOf_len]; exact row_norm cells67 k1 hy
      · rw [h7] at hy; exact hy
      · rw [h8] at hy; exact hy
      · rw [h9] at hy; exact hy
      · rw [h10] at hy; exact hy
    · cases h
  · cases h
theorem LL_iP_ok {L : LTab} (h : LOk Try.prog L) : LOk Try.prog (LL_iP cond_iP phi_iP L) := h.add2n body_iP told_iP_ok
def pre_iQ (er : Int) (d : ByteArray) (ng : Bool) (xs : List Int) (i n y k : Int) (rb : Bool) (rs : ByteArray) : Prop := n = 0 ∧ y = 1 ∧ k = 0 ∧ ∃ j m : Nat, i = j ∧ m < 9 ∧ j + m < d.size ∧ d.size ≤ 1000000 ∧ (∀ l, j ≤ l → l < j + m → okd d l) ∧ ¬ okd d (j + m)
def post_iQ (er : Int) (d : ByteArray) (ng : Bool) (xs : List Int) (i n y k : Int) (rb : Bool) (rs : ByteArray) (ρ : Int × Int × Int × Int × Int × Bool × ByteArray) : Prop := ρ.1 = 3 ∧ ρ.2.2.2.2.2.1 = false ∧ ρ.2.2.2.2.2.2 = ByteArray.mk #[]
theorem iQ_go (er : Int) (d : ByteArray) (ng : Bool) (xs : List Int) (rb : Bool) (rs : ByteArray) (j : Nat) (hd : d.size ≤ 1000000) (m : Nat) : ∀ (k n : Nat), k + m < 9 → j + k + m < d.size → (∀ l, j ≤ l → l < j + k + m → okd d l) → ¬ okd d (j + k + m) → n < 10 ^ k →
    ∃ ρ : Int × Int × Int × Int × Int × Bool × ByteArray, LoopTo Try.prog (lb 16 p_iP) (sh_iP er d ng xs ((j + k : Nat) : Int) n ((10 ^ k : Nat) : Int) k rb rs) (hp_iP er d ng xs ((j + k : Nat) : Int) n ((10 ^ k : Nat) : Int) k rb rs) .ret (sh_iP ρ.1 d ng xs ρ.2.1 ρ.2.2.1 ρ.2.2.2.1 ρ.2.2.2.2.1 ρ.2.2.2.2.2.1 ρ.2.2.2.2.2.2) (hp_iP ρ.1 d ng xs ρ.2.1 ρ.2.2.1 ρ.2.2.2.1 ρ.2.2.2.2.1 ρ.2.2.2.2.2.1 ρ.2.2.2.2.2.2) ∧ ρ.1 = 3 ∧ ρ.2.2.2.2.2.1 = false ∧ ρ.2.2.2.2.2.2 = ByteArray.mk #[] := by
  induction m with
  | zero =>
    intro k n hk hs ho hb hn
    rw [Nat.add_zero] at hb hs
    refine ⟨(3, ((j + k : Nat) : Int), (n : Int), ((10 ^ k : Nat) : Int), (k : Int), false, ByteArray.mk #[]), .last (step_iP ?_) (by intro h; cases h), rfl, rfl, rfl⟩
    rw [round_iP, Int.toNat_natCast, dT (show (k : Int) < 9 by omega), dT (show ((j + k : Nat) : Int) < (d.size : Int) by omega), dT (show (0 : Int) ≤ ((j + k : Nat) : Int) by omega)]
    by_cases h1 : byteAt d (j + k) < 48
    · rw [dT h1]; rfl
    · have h2 : 57 < byteAt d (j + k) := by
        refine Int.lt_of_not_ge fun h => hb ⟨by omega, h⟩
      rw [dF h1, dT h2]; rfl
  | succ m ih =>
    intro k n hk hs ho hb hn
    have hok := ho (j + k) (by omega) (by omega)
    have hdl := dig_lt hok
    obtain ⟨ρ, g1, g2⟩ := ih (k + 1) (n * 10 + dig d (j + k)) (by omega) (by omega) (fun l h1 h2 => ho l h1 (by omega)) (by rw [show j + (k + 1) + m = j + k + (m + 1) by omega]; exact hb) (by rw [Nat.pow_succ]; omega)
    exact ⟨ρ, .more (step_iP (iP_dig er d ng xs rb rs (by omega) (by omega) hd hok hn)) g1, g2⟩
theorem loop_iQ (er : Int) (d : ByteArray) (ng : Bool) (xs : List Int) (i n y k : Int) (rb : Bool) (rs : ByteArray) (h : pre_iQ er d ng xs i n y k rb rs) : ∃ ρ : Int × Int × Int × Int × Int × Bool × ByteArray, LoopTo Try.prog (lb 16 p_iQ) (sh_iQ er d ng xs i n y k rb rs) (hp_iQ er d ng xs i n y k rb rs) .ret (sh_iQ ρ.1 d ng xs ρ.2.1 ρ.2.2.1 ρ.2.2.2.1 ρ.2.2.2.2.1 ρ.2.2.2.2.2.1 ρ.2.2.2.2.2.2) (hp_iQ ρ.1 d ng xs ρ.2.1 ρ.2.2.1 ρ.2.2.2.1 ρ.2.2.2.2.1 ρ.2.2.2.2.2.1 ρ.2.2.2.2.2.2) ∧ post_iQ er d ng xs i n y k rb rs ρ := by
  obtain ⟨rfl, rfl, rfl, j, m, rfl, hm, hj, hd, ho, hb⟩ := h
  exact iQ_go er d ng xs rb rs j hd m 0 0 (by omega) hj ho hb (by decide)
def told_iQ (κ : Int → ByteArray → Bool → List Int → Int → Int → Int → Int → Bool → ByteArray → Bool) (φ : Int → ByteArray → Bool → List Int → Int → Int → Int → Int → Bool → ByteArray → Int × Int × Int × Int × Int × Bool × ByteArray) (T : List AV) (H : Hp) : Option (Bool × Ex × List AV × Hp) :=
  match lget T 2, lget T 3, lget T 4, lget T 5, lget T 6, lget T 7, lget T 8, lget T 9, lget T 10, H with
  | .ptr 0 0, .val (.int .i64 er), .val (.string d), .val (.bool ng), .lst false 67 m_xs f_xs, .val (.int .i64 i), .val (.int .u32 n), .val (.int .u32 y), .val (.int .i64 k), [.row (.cells [.val (.bool rb), .val (.string rs)]) 40 .live] => bif T.length == 78 then some (okB m_xs f_xs && κ er d ng (rowOf m_xs f_xs) i n y k rb rs, .ret, sh_iQ ((φ er d ng (rowOf m_xs f_xs) i n y k rb rs).1) d ng (rowOf m_xs f_xs) ((φ er d ng (rowOf m_xs f_xs) i n y k rb rs).2.1) ((φ er d ng (rowOf m_xs f_xs) i n y k rb rs).2.2.1) ((φ er d ng (rowOf m_xs f_xs) i n y k rb rs).2.2.2.1) ((φ er d ng (rowOf m_xs f_xs) i n y k rb rs).2.2.2.2.1) ((φ er d ng (rowOf m_xs f_xs) i n y k rb rs).2.2.2.2.2.1) ((φ er d ng (rowOf m_xs f_xs) i n y k rb rs).2.2.2.2.2.2), hp_iQ ((φ er d ng (rowOf m_xs f_xs) i n y k rb rs).1) d ng (rowOf m_xs f_xs) ((φ er d ng (rowOf m_xs f_xs) i n y k rb rs).2.1) ((φ er d ng (rowOf m_xs f_xs) i n y k rb rs).2.2.1) ((φ er d ng (rowOf m_xs f_xs) i n y k rb rs).2.2.2.1) ((φ er d ng (rowOf m_xs f_xs) i n y k rb rs).2.2.2.2.1) ((φ er d ng (rowOf m_xs f_xs) i n y k rb rs).2.2.2.2.2.1) ((φ er d ng (rowOf m_xs f_xs) i n y k rb rs).2.2.2.2.2.2)) else none
  | _, _, _, _, _, _, _, _, _, _ => none
abbrev KT_iQ : Type := Int → ByteArray → Bool → List Int → Int → Int → Int → Int → Bool → ByteArray → Bool
abbrev FT_iQ : Type := Int → ByteArray → Bool → List Int → Int → Int → Int → Int → Bool → ByteArray → Int × Int × Int × Int × Int × Bool × ByteArray
def LL_iQ (κ : KT_iQ) (φ : FT_iQ) (L : LTab) : LTab := addLn 0 16 p_iQ [2, 3, 4, 5, 6, 7, 8, 9, 10] (told_iQ κ φ) L
def phi_iQ (er : Int) (d : ByteArray) (ng : Bool) (xs : List Int) (i : Int) (n : Int) (y : Int) (k : Int) (rb : Bool) (rs : ByteArray) : Int × Int × Int × Int × Int × Bool × ByteArray := Classical.epsilon fun ρ => LoopTo Try.prog (lb 16 p_iQ) (sh_iQ er d ng xs i n y k rb rs) (hp_iQ er d ng xs i n y k rb rs) (.ret) (sh_iQ (ρ.1) d ng xs (ρ.2.1) (ρ.2.2.1) (ρ.2.2.2.1) (ρ.2.2.2.2.1) (ρ.2.2.2.2.2.1) (ρ.2.2.2.2.2.2)) (hp_iQ (ρ.1) d ng xs (ρ.2.1) (ρ.2.2.1) (ρ.2.2.2.1) (ρ.2.2.2.2.1) (ρ.2.2.2.2.2.1) (ρ.2.2.2.2.2.2)) ∧ post_iQ er d ng xs i n y k rb rs ρ
theorem phi_iQ_spec (er : Int) (d : ByteArray) (ng : Bool) (xs : List Int) (i : Int) (n : Int) (y : Int) (k : Int) (rb : Bool) (rs : ByteArray) (h : pre_iQ er d ng xs i n y k rb rs) : LoopTo Try.prog (lb 16 p_iQ) (sh_iQ er d ng xs i n y k rb rs) (hp_iQ er d ng xs i n y k rb rs) (.ret) (sh_iQ ((phi_iQ er d ng xs i n y k rb rs).1) d ng xs ((phi_iQ er d ng xs i n y k rb rs).2.1) ((phi_iQ er d ng xs i n y k rb rs).2.2.1) ((phi_iQ er d ng xs i n y k rb rs).2.2.2.1) ((phi_iQ er d ng xs i n y k rb rs).2.2.2.2.1) ((phi_iQ er d ng xs i n y k rb rs).2.2.2.2.2.1) ((phi_iQ er d ng xs i n y k rb rs).2.2.2.2.2.2)) (hp_iQ ((phi_iQ er d ng xs i n y k rb rs).1) d ng xs ((phi_iQ er d ng xs i n y k rb rs).2.1) ((phi_iQ er d ng xs i n y k rb rs).2.2.1) ((phi_iQ er d ng xs i n y k rb rs).2.2.2.1) ((phi_iQ er d ng xs i n y k rb rs).2.2.2.2.1) ((phi_iQ er d ng xs i n y k rb rs).2.2.2.2.2.1) ((phi_iQ er d ng xs i n y k rb rs).2.2.2.2.2.2)) ∧ post_iQ er d ng xs i n y k rb rs (phi_iQ er d ng xs i n y k rb rs) := Classical.epsilon_spec (loop_iQ er d ng xs i n y k rb rs h)
def cond_iQ (er : Int) (d : ByteArray) (ng : Bool) (xs : List Int) (i : Int) (n : Int) (y : Int) (k : Int) (rb : Bool) (rs : ByteArray) : Bool := @decide (pre_iQ er d ng xs i n y k rb rs) (Classical.propDecidable _)
theorem cond_iQ_eq (er : Int) (d : ByteArray) (ng : Bool) (xs : List Int) (i : Int) (n : Int) (y : Int) (k : Int) (rb : Bool) (rs : ByteArray) (h : pre_iQ er d ng xs i n y k rb rs) : cond_iQ er d ng xs i n y k rb rs = true := @decide_eq_true _ (Classical.propDecidable _) h
theorem told_iQ_ok (T : List AV) (H : Hp) (e : Ex) (T1 : List AV) (H1 : Hp) (h : told_iQ cond_iQ phi_iQ T H = some (true, e, T1, H1)) : V.Ends Try.prog false 0 0 (.loop (lb 16 p_iQ)) T H e T1 H1 := by
  unfold told_iQ at h
  split at h
  · rename_i er d ng m_xs f_xs i n y k rb rs h2 h3 h4 h5 h6 h7 h8 h9 h10
    rw [Bool.cond_eq_ite] at h
    split at h
    · rename_i hlen
      rw [beq_iff_eq] at hlen
      simp only [Option.some.injEq, Prod.mk.injEq, Bool.and_eq_true, decide_eq_true_eq] at h
      obtain ⟨⟨k1, k2⟩, rfl, rfl, rfl⟩ := h
      have kc := @of_decide_eq_true _ (Classical.propDecidable _) k2
      refine Ends.pre (phi_iQ_spec er d ng (rowOf m_xs f_xs) i n y k rb rs kc).1.ends (fun α B w D ys hr => slots_rel hlen (fun p hp y hy => ?_) hr)
      simp only [List.mem_cons, List.not_mem_nil, or_false] at hp
      rcases hp with rfl | rfl | rfl | rfl | rfl | rfl | rfl | rfl | rfl
      · rw [h2] at hy; exact hy
      · rw [h3] at hy; exact hy
      · rw [h4] at hy; exact hy
      · rw [h5] at hy; exact hy
      · rw [h6] at hy; rw [rowOf_len]; exact row_norm cells67 k1 hy
      · rw [h7] at hy; exact hy
      · rw [h8] at hy; exact hy
      · rw [h9] at hy; exact hy
      · rw [h10] at hy; exact hy
    · cases h
  · cases h
theorem LL_iQ_ok {L : LTab} (h : LOk Try.prog L) : LOk Try.prog (LL_iQ cond_iQ phi_iQ L) := h.add2n body_iQ told_iQ_ok
end
end Go.Proofs.Ytibaendebbicjaa.L
namespace Go.Proofs.Ytibaendebbicjaa.L
open Go Go.V Go.RowKit Go.Proofs.Ytibaendebbicjaa.Sp Go.Proofs.Ytibaendebbicjaa.F
open Go.Proofs (Try.prog)
noncomputable section
def CMd (S : Sg) : FuncId → List AV → Option (Bool × AV) := addC 38 (tMuladd S) noC
def EpG (S : Sg) (κ : KT_iP) (φ : FT_iP) : Env := ⟨CMd S, fun _ => false, LL_iP κ φ noL⟩
def EpB (S : Sg) (κ : KT_iQ) (φ : FT_iQ) : Env := ⟨CMd S, fun _ => false, LL_iQ κ φ noL⟩
abbrev p_pO : List Bool := [false, true, false, true, true, true, true, true]
def sh_pO (er : Int) (d : ByteArray) (ng : Bool) (xs : List Int) (i : Int) (rb : Bool) (rs : ByteArray) : List AV := slots 78 [(2, .ptr 0 0), (3, .val (.int .i64 er)), (4, .val (.string d)), (5, .val (.bool ng)), (6, .lst false 67 xs.length (lim xs)), (7, .val (.int .i64 i))]
def hp_pO (er : Int) (d : ByteArray) (ng : Bool) (xs : List Int) (i : Int) (rb : Bool) (rs : ByteArray) : Hp := [.row (.cells [.val (.bool rb), .val (.string rs)]) 40 .live]
theorem body_pO : subC Try.prog 16 p_pO = some (.loop (lb 16 p_pO)) := by kernel_rfl
theorem code_pO : subC Try.prog 16 (false :: p_pO) = some (lb 16 p_pO) := by kernel_rfl
theorem round_pO (S : Sg) (κ : KT_iP) (φ : FT_iP) (er : Int) (d : ByteArray) (ng : Bool) (xs : List Int) (i : Int) (rb : Bool) (rs : ByteArray) : letI q_2 := (rowOf xs.length (lim xs)); letI q_1 := (φ er d ng q_2 i (0 : Int) (1 : Int) (0 : Int) rb rs);
    (roundA Try.prog (EpG S κ φ) 16 [2, 3, 4, 5, 6, 7] (lb 16 p_pO) (false :: p_pO) (sh_pO er d ng xs i rb rs) (hp_pO er d ng xs i rb rs) = (bif decide (i < (↑d.size : Int)) then (bif okB xs.length (lim xs) && κ er d ng q_2 i (0 : Int) (1 : Int) (0 : Int) rb rs then (bif S.oks q_2.length (lim q_2) && inU q_1.snd.snd.fst && inU q_1.snd.fst then some (.normal, slots 78 [(2, (.ptr 0 0)), (3, (.val (.int .i64 er))), (4, (.val (.string d))), (5, (.val (.bool ng))), (6, (.lst false 67 (S.len (S.num q_2.length (lim q_2) * q_1.snd.snd.fst.toNat + q_1.snd.fst.toNat)) (S.row (S.num q_2.length (lim q_2) * q_1.snd.snd.fst.toNat + q_1.snd.fst.toNat)))), (7, (.val (.int .i64 (q_1.fst))))], [(.row (.cells [(.val (.bool rb)), (.val (.string rs))]) 40 .live)]) else none) else none) else some ((.exit 0), slots 78 [(2, (.ptr 0 0)), (3, (.val (.int .i64 er))), (4, (.val (.string d))), (5, (.val (.bool ng))), (6, (.lst false 67 xs.length (lim xs))), (7, (.val (.int .i64 i)))], [(.row (.cells [(.val (.bool rb)), (.val (.string rs))]) 40 .live)]))) := by kernel_rfl
theorem step_pO {er : Int} {d : ByteArray} {ng : Bool} {xs : List Int} {i : Int} {rb : Bool} {rs : ByteArray} {e : Ex} {T : List AV} {H : Hp} (h : roundA Try.prog (EpG sg0 cond_iP phi_iP) 16 [2, 3, 4, 5, 6, 7] (lb 16 p_pO) (false :: p_pO) (sh_pO er d ng xs i rb rs) (hp_pO er d ng xs i rb rs) = some (e, T, H)) : V.Ends Try.prog false 0 0 (lb 16 p_pO) (sh_pO er d ng xs i rb rs) (hp_pO er d ng xs i rb rs) e T H :=
  round_ends ((meets_none _).add eMuladd) (LL_iP_ok LOk.none).ok mixed code_pO h
theorem nil_lst {t : TypeId} {α : Nat → Nat × Nat} {B : Nat → Prop} {w : World} {D : Nat → Prop} {x : Value} (h : (AV.val (.slice none 0 0)).Rel Try.prog α B w D x) : (AV.lst false t ([] : List Int).length (lim [])).Rel Try.prog α B w D x :=
  ⟨none, 0, h, Nat.le_refl _, (fun h => by cases h), .inl rfl⟩
theorem bs_dec {n i : Nat} (h : n < 10 ^ i) : bs n ≤ i := bs_le (Nat.lt_of_lt_of_le h (Nat.pow_le_pow_left (by decide) i))
theorem oks_dec {n i : Nat} (h : n < 10 ^ i) (hi : i ≤ 1000000) : sg0.oks (toL n).length (lim (toL n)) = true := oks_row (by have := bs_dec h; omega)
theorem num_toL' (n : Nat) : sg0.num (toL n).length (lim (toL n)) = n := num_row n
def pre_pO (er : Int) (d : ByteArray) (ng : Bool) (xs : List Int) (i : Int) (rb : Bool) (rs : ByteArray) : Prop := xs = [] ∧ i = 0 ∧ d.size ≤ 1000000 ∧ ∀ l, l < d.size → okd d l
def post_pO (er : Int) (d : ByteArray) (ng : Bool) (xs : List Int) (i : Int) (rb : Bool) (rs : ByteArray) (ρ : List Int × Int) : Prop := ρ.1 = toL (vT d d.size)
theorem pO_step (er : Int) (d : ByteArray) (ng : Bool) (rb : Bool) (rs : ByteArray) (hd : d.size ≤ 1000000) {i : Nat} (hi : i < d.size) (hv : vT d i < 10 ^ i) (ho : ∀ l, i ≤ l → l < i + 9 → l < d.size → okd d l) : ∃ k, 0 < k ∧ k ≤ 9 ∧ i + k ≤ d.size ∧ vT d (i + k) < 10 ^ (i + k) ∧
    V.Ends Try.prog false 0 0 (lb 16 p_pO) (sh_pO er d ng (toL (vT d i)) i rb rs) (hp_pO er d ng (toL (vT d i)) i rb rs) .normal (sh_pO er d ng (toL (vT d (i + k))) ((i + k : Nat) : Int) rb rs) (hp_pO er d ng (toL (vT d (i + k))) ((i + k : Nat) : Int) rb rs) := by
  have hq : pre_iP er d ng (toL (vT d i)) i 0 1 0 rb rs := ⟨rfl, rfl, rfl, i, rfl, hi, hd, ho⟩
  have hs := (phi_iP_spec _ _ _ _ _ _ _ _ _ _ hq).2
  have hr := round_pO sg0 cond_iP phi_iP er d ng (toL (vT d i)) i rb rs
  simp only [rowOf_lim', num_toL'] at hr
  rw [cond_iP_eq _ _ _ _ _ _ _ _ _ _ hq, show okB (toL (vT d i)).length (lim (toL (vT d i))) = true from okB_enc _, oks_dec hv (by omega), dT (show (i : Int) < (d.size : Int) by omega)] at hr
  generalize phi_iP er d ng (toL (vT d i)) i 0 1 0 rb rs = ρ at *
  obtain ⟨k, n, g1, g2, g3, g4, g5, g6, g7, g8⟩ := hs
  rw [Int.toNat_natCast] at g1 g4 g8
  have h9 := p9 g3
  have u1 : inU ((10 ^ k : Nat) : Int) = true := by unfold inU; rw [Bool.and_eq_true, decide_eq_true_eq, decide_eq_true_eq]; omega
  have u2 : inU ((n : Nat) : Int) = true := by unfold inU; rw [Bool.and_eq_true, decide_eq_true_eq, decide_eq_true_eq]; omega
  rw [g7, g5, g1, u1, u2, Int.toNat_natCast, Int.toNat_natCast, ← g8] at hr
  refine ⟨k, g2, g3, g4, ?_, step_pO hr⟩
  rw [g8, Nat.pow_add]
  have h1 : (vT d i + 1) * 10 ^ k ≤ 10 ^ i * 10 ^ k := Nat.mul_le_mul_right _ hv
  rw [Nat.add_mul, Nat.one_mul] at h1
  omega
theorem pO_go (er : Int) (d : ByteArray) (ng : Bool) (rb : Bool) (rs : ByteArray) (hd : d.size ≤ 1000000) (ho : ∀ l, l < d.size → okd d l) (r : Nat) : ∀ i, d.size ≤ i + r → i ≤ d.size → vT d i < 10 ^ i → LoopTo Try.prog (lb 16 p_pO) (sh_pO er d ng (toL (vT d i)) i rb rs) (hp_pO er d ng (toL (vT d i)) i rb rs) (.exit 0) (sh_pO er d ng (toL (vT d d.size)) d.size rb rs) (hp_pO er d ng (toL (vT d d.size)) d.size rb rs) := by
  have fin : LoopTo Try.prog (lb 16 p_pO) (sh_pO er d ng (toL (vT d d.size)) d.size rb rs) (hp_pO er d ng (toL (vT d d.size)) d.size rb rs) (.exit 0) (sh_pO er d ng (toL (vT d d.size)) d.size rb rs) (hp_pO er d ng (toL (vT d d.size)) d.size rb rs) := by
    refine .last (step_pO ?_) (by intro h; cases h)
    rw [round_pO, dF (show ¬ ((d.size : Nat) : Int) < (d.size : Int) by omega)]
    rfl
  induction r with
  | zero =>
    intro i h1 h2 _
    rw [show i = d.size by omega]
    exact fin
  | succ r ih =>
    intro i h1 h2 hv
    by_cases hi : i < d.size
    · obtain ⟨k, k1, k2, k3, k4, k5⟩ := pO_step er d ng rb rs hd hi hv (fun l _ _ h => ho l h)
      exact .more k5 (ih (i + k) (by omega) k3 k4)
    · rw [show i = d.size by omega]
      exact fin
theorem loop_pO (er : Int) (d : ByteArray) (ng : Bool) (xs : List Int) (i : Int) (rb : Bool) (rs : ByteArray) (h : pre_pO er d ng xs i rb rs) : ∃ ρ : List Int × Int, LoopTo Try.prog (lb 16 p_pO) (sh_pO er d ng xs i rb rs) (hp_pO er d ng xs i rb rs) (.exit 0) (sh_pO er d ng ρ.1 ρ.2 rb rs) (hp_pO er d ng ρ.1 ρ.2 rb rs) ∧ post_pO er d ng xs i rb rs ρ := by
  obtain ⟨rfl, rfl, hd, ho⟩ := h
  have h := pO_go er d ng rb rs hd ho d.size 0 (by omega) (Nat.zero_le _) (show 0 < 1 by decide)
  rw [show toL (vT d 0) = [] from toL_zero] at h
  exact ⟨(toL (vT d d.size), (d.size : Int)), h, rfl⟩
def told_pO (κ : Int → ByteArray → Bool → List Int → Int → Bool → ByteArray → Bool) (φ : Int → ByteArray → Bool → List Int → Int → Bool → ByteArray → List Int × Int) (T : List AV) (H : Hp) : Option (Bool × Ex × List AV × Hp) :=
  match lget T 2, lget T 3, lget T 4, lget T 5, lget T 6, lget T 7, H with
  | .ptr 0 0, .val (.int .i64 er), .val (.string d), .val (.bool ng), .val (.slice none 0 0), .val (.int .i64 i), [.row (.cells [.val (.bool rb), .val (.string rs)]) 40 .live] => bif T.length == 78 then some (κ er d ng ([] : List Int) i rb rs, .exit 0, sh_pO er d ng ((φ er d ng ([] : List Int) i rb rs).1) ((φ er d ng ([] : List Int) i rb rs).2) rb rs, hp_pO er d ng ((φ er d ng ([] : List Int) i rb rs).1) ((φ er d ng ([] : List Int) i rb rs).2) rb rs) else none
  | _, _, _, _, _, _, _ => none
abbrev KT_pO : Type := Int → ByteArray → Bool → List Int → Int → Bool → ByteArray → Bool
abbrev FT_pO : Type := Int → ByteArray → Bool → List Int → Int → Bool → ByteArray → List Int × Int
def LL_pO (κ : KT_pO) (φ : FT_pO) (L : LTab) : LTab := addLn 0 16 p_pO [2, 3, 4, 5, 6, 7] (told_pO κ φ) L
def phi_pO (er : Int) (d : ByteArray) (ng : Bool) (xs : List Int) (i : Int) (rb : Bool) (rs : ByteArray) : List Int × Int := Classical.epsilon fun ρ => LoopTo Try.prog (lb 16 p_pO) (sh_pO er d ng xs i rb rs) (hp_pO er d ng xs i rb rs) (.exit 0) (sh_pO er d ng (ρ.1) (ρ.2) rb rs) (hp_pO er d ng (ρ.1) (ρ.2) rb rs) ∧ post_pO er d ng xs i rb rs ρ
theorem phi_pO_spec (er : Int) (d : ByteArray) (ng : Bool) (xs : List Int) (i : Int) (rb : Bool) (rs : ByteArray) (h : pre_pO er d ng xs i rb rs) : LoopTo Try.prog (lb 16 p_pO) (sh_pO er d ng xs i rb rs) (hp_pO er d ng xs i rb rs) (.exit 0) (sh_pO er d ng ((phi_pO er d ng xs i rb rs).1) ((phi_pO er d ng xs i rb rs).2) rb rs) (hp_pO er d ng ((phi_pO er d ng xs i rb rs).1) ((phi_pO er d ng xs i rb rs).2) rb rs) ∧ post_pO er d ng xs i rb rs (phi_pO er d ng xs i rb rs) := Classical.epsilon_spec (loop_pO er d ng xs i rb rs h)
def cond_pO (er : Int) (d : ByteArray) (ng : Bool) (xs : List Int) (i : Int) (rb : Bool) (rs : ByteArray) : Bool := @decide (pre_pO er d ng xs i rb rs) (Classical.propDecidable _)
theorem cond_pO_eq (er : Int) (d : ByteArray) (ng : Bool) (xs : List Int) (i : Int) (rb : Bool) (rs : ByteArray) (h : pre_pO er d ng xs i rb rs) : cond_pO er d ng xs i rb rs = true := @decide_eq_true _ (Classical.propDecidable _) h
theorem told_pO_ok (T : List AV) (H : Hp) (e : Ex) (T1 : List AV) (H1 : Hp) (h : told_pO cond_pO phi_pO T H = some (true, e, T1, H1)) : V.Ends Try.prog false 0 0 (.loop (lb 16 p_pO)) T H e T1 H1 := by
  unfold told_pO at h
  split at h
  · rename_i er d ng i rb rs h2 h3 h4 h5 h6 h7
    rw [Bool.cond_eq_ite] at h
    split at h
    · rename_i hlen
      rw [beq_iff_eq] at hlen
      simp only [Option.some.injEq, Prod.mk.injEq, Bool.and_eq_true, decide_eq_true_eq] at h
      obtain ⟨k1, rfl, rfl, rfl⟩ := h
      have kc := @of_decide_eq_true _ (Classical.propDecidable _) k1
      refine Ends.pre (phi_pO_spec er d ng ([] : List Int) i rb rs kc).1.ends (fun α B w D ys hr => slots_rel hlen (fun p hp y hy => ?_) hr)
      simp only [List.mem_cons, List.not_mem_nil, or_false] at hp
      rcases hp with rfl | rfl | rfl | rfl | rfl | rfl
      · rw [h2] at hy; exact hy
      · rw [h3] at hy; exact hy
      · rw [h4] at hy; exact hy
      · rw [h5] at hy; exact hy
      · rw [h6] at hy; exact nil_lst hy
      · rw [h7] at hy; exact hy
    · cases h
  · cases h
theorem LL_pO_ok {L : LTab} (h : LOk Try.prog L) : LOk Try.prog (LL_pO cond_pO phi_pO L) := h.add2n body_pO told_pO_ok
abbrev p_pX : List Bool := [false, true, false, true, true, true, true, true]
def sh_pX (er : Int) (d : ByteArray) (ng : Bool) (xs : List Int) (i : Int) (rb : Bool) (rs : ByteArray) : List AV := slots 78 [(2, .ptr 0 0), (3, .val (.int .i64 er)), (4, .val (.string d)), (5, .val (.bool ng)), (6, .lst false 67 xs.length (lim xs)), (7, .val (.int .i64 i))]
def hp_pX (er : Int) (d : ByteArray) (ng : Bool) (xs : List Int) (i : Int) (rb : Bool) (rs : ByteArray) : Hp := [.row (.cells [.val (.bool rb), .val (.string rs)]) 40 .live]
theorem body_pX : subC Try.prog 16 p_pX = some (.loop (lb 16 p_pX)) := by kernel_rfl
theorem code_pX : subC Try.prog 16 (false :: p_pX) = some (lb 16 p_pX) := by kernel_rfl
theorem round_pX (S : Sg) (κ : KT_iQ) (φ : FT_iQ) (er : Int) (d : ByteArray) (ng : Bool) (xs : List Int) (i : Int) (rb : Bool) (rs : ByteArray) : roundA Try.prog (EpB S κ φ) 16 [2, 3, 4, 5, 6, 7] (lb 16 p_pX) (false :: p_pX) (sh_pX er d ng xs i rb rs) (hp_pX er d ng xs i rb rs) =
    (bif decide (i < (↑d.size : Int)) then (bif okB xs.length (lim xs) && κ er d ng (rowOf xs.length (lim xs)) i (0 : Int) (1 : Int) (0 : Int) rb rs then some (.ret, slots 78 [(2, (.ptr 0 0)), (3, (.val (.int .i64 ((φ er d ng (rowOf xs.length (lim xs)) i (0 : Int) (1 : Int) (0 : Int) rb rs).fst)))), (4, (.val (.string d))), (5, (.val (.bool ng))), (6, (.lst false 67 ((rowOf xs.length (lim xs)).length) (lim (rowOf xs.length (lim xs))))), (7, (.val (.int .i64 ((φ er d ng (rowOf xs.length (lim xs)) i (0 : Int) (1 : Int) (0 : Int) rb rs).snd.fst))))], [(.row (.cells [(.val (.bool ((φ er d ng (rowOf xs.length (lim xs)) i (0 : Int) (1 : Int) (0 : Int) rb rs).snd.snd.snd.snd.snd.fst))), (.val (.string ((φ er d ng (rowOf xs.length (lim xs)) i (0 : Int) (1 : Int) (0 : Int) rb rs).snd.snd.snd.snd.snd.snd)))]) 40 .live)]) else none) else some ((.exit 0), slots 78 [(2, (.ptr 0 0)), (3, (.val (.int .i64 er))), (4, (.val (.string d))), (5, (.val (.bool ng))), (6, (.lst false 67 xs.length (lim xs))), (7, (.val (.int .i64 i)))], [(.row (.cells [(.val (.bool rb)), (.val (.string rs))]) 40 .live)])) := by kernel_rfl
theorem step_pX {er : Int} {d : ByteArray} {ng : Bool} {xs : List Int} {i : Int} {rb : Bool} {rs : ByteArray} {e : Ex} {T : List AV} {H : Hp} (h : roundA Try.prog (EpB sg0 cond_iQ phi_iQ) 16 [2, 3, 4, 5, 6, 7] (lb 16 p_pX) (false :: p_pX) (sh_pX er d ng xs i rb rs) (hp_pX er d ng xs i rb rs) = some (e, T, H)) : V.Ends Try.prog false 0 0 (lb 16 p_pX) (sh_pX er d ng xs i rb rs) (hp_pX er d ng xs i rb rs) e T H :=
  round_ends ((meets_none _).add eMuladd) (LL_iQ_ok LOk.none).ok mixed code_pX h
def pre_pX (er : Int) (d : ByteArray) (ng : Bool) (xs : List Int) (i : Int) (rb : Bool) (rs : ByteArray) : Prop := xs = [] ∧ i = 0 ∧ d.size ≤ 1000000 ∧ ∃ m, m < d.size ∧ (∀ l, l < m → okd d l) ∧ ¬ okd d m
def post_pX (er : Int) (d : ByteArray) (ng : Bool) (xs : List Int) (i : Int) (rb : Bool) (rs : ByteArray) (ρ : Int × List Int × Int × Bool × ByteArray) : Prop := ρ.1 = 3 ∧ ρ.2.2.2.1 = false ∧ ρ.2.2.2.2 = ByteArray.mk #[]
theorem pX_go (er : Int) (d : ByteArray) (ng : Bool) (rb : Bool) (rs : ByteArray) (hd : d.size ≤ 1000000) (m : Nat) (hm : m < d.size) (ho : ∀ l, l < m → okd d l) (hb : ¬ okd d m) (r : Nat) : ∀ i, m ≤ i + r → i ≤ m → vT d i < 10 ^ i → ∃ ρ : Int × List Int × Int × Bool × ByteArray, LoopTo Try.prog (lb 16 p_pO) (sh_pO er d ng (toL (vT d i)) i rb rs) (hp_pO er d ng (toL (vT d i)) i rb rs) .ret (sh_pO ρ.1 d ng ρ.2.1 ρ.2.2.1 ρ.2.2.2.1 ρ.2.2.2.2) (hp_pO ρ.1 d ng ρ.2.1 ρ.2.2.1 ρ.2.2.2.1 ρ.2.2.2.2) ∧ ρ.1 = 3 ∧ ρ.2.2.2.1 = false ∧ ρ.2.2.2.2 = ByteArray.mk #[] := by
  have fin : ∀ i : Nat, i ≤ m → m < i + 9 → vT d i < 10 ^ i → ∃ ρ : Int × List Int × Int × Bool × ByteArray, LoopTo Try.prog (lb 16 p_pO) (sh_pO er d ng (toL (vT d i)) i rb rs) (hp_pO er d ng (toL (vT d i)) i rb rs) .ret (sh_pO ρ.1 d ng ρ.2.1 ρ.2.2.1 ρ.2.2.2.1 ρ.2.2.2.2) (hp_pO ρ.1 d ng ρ.2.1 ρ.2.2.1 ρ.2.2.2.1 ρ.2.2.2.2) ∧ ρ.1 = 3 ∧ ρ.2.2.2.1 = false ∧ ρ.2.2.2.2 = ByteArray.mk #[] := by
    intro i h1 h2 hv
    have hq : pre_iQ er d ng (toL (vT d i)) i 0 1 0 rb rs := ⟨rfl, rfl, rfl, i, m - i, rfl, by omega, by omega, hd, fun l h3 h4 => ho l (by omega), by rw [show i + (m - i) = m by omega]; exact hb⟩
    have hs := (phi_iQ_spec _ _ _ _ _ _ _ _ _ _ hq).2
    have hr := round_pX sg0 cond_iQ phi_iQ er d ng (toL (vT d i)) i rb rs
    simp only [rowOf_lim'] at hr
    rw [cond_iQ_eq _ _ _ _ _ _ _ _ _ _ hq, show okB (toL (vT d i)).length (lim (toL (vT d i))) = true from okB_enc _, dT (show (i : Int) < (d.size : Int) by omega)] at hr
    generalize phi_iQ er d ng (toL (vT d i)) i 0 1 0 rb rs = ρ at *
    exact ⟨(ρ.1, toL (vT d i), ρ.2.1, ρ.2.2.2.2.2.1, ρ.2.2.2.2.2.2), .last (step_pX hr) (by intro h; cases h), hs.1, hs.2.1, hs.2.2⟩
  induction r with
  | zero =>
    intro i h1 h2 hv
    exact fin i h2 (by omega) hv
  | succ r ih =>
    intro i h1 h2 hv
    by_cases hi : m < i + 9
    · exact fin i h2 hi hv
    · obtain ⟨k, k1, k2, k3, k4, k5⟩ := pO_step er d ng rb rs hd (show i < d.size by omega) hv (fun l h3 h4 _ => ho l (by omega))
      obtain ⟨ρ, g1, g2⟩ := ih (i + k) (by omega) (by omega) k4
      exact ⟨ρ, .more k5 g1, g2⟩
theorem loop_pX (er : Int) (d : ByteArray) (ng : Bool) (xs : List Int) (i : Int) (rb : Bool) (rs : ByteArray) (h : pre_pX er d ng xs i rb rs) : ∃ ρ : Int × List Int × Int × Bool × ByteArray, LoopTo Try.prog (lb 16 p_pX) (sh_pX er d ng xs i rb rs) (hp_pX er d ng xs i rb rs) .ret (sh_pX ρ.1 d ng ρ.2.1 ρ.2.2.1 ρ.2.2.2.1 ρ.2.2.2.2) (hp_pX ρ.1 d ng ρ.2.1 ρ.2.2.1 ρ.2.2.2.1 ρ.2.2.2.2) ∧ post_pX er d ng xs i rb rs ρ := by
  obtain ⟨rfl, rfl, hd, m, hm, ho, hb⟩ := h
  have h := pX_go er d ng rb rs hd m hm ho hb m 0 (by omega) (Nat.zero_le _) (show 0 < 1 by decide)
  rw [show toL (vT d 0) = [] from toL_zero] at h
  exact h
def told_pX (κ : Int → ByteArray → Bool → List Int → Int → Bool → ByteArray → Bool) (φ : Int → ByteArray → Bool → List Int → Int → Bool → ByteArray → Int × List Int × Int × Bool × ByteArray) (T : List AV) (H : Hp) : Option (Bool × Ex × List AV × Hp) :=
  match lget T 2, lget T 3, lget T 4, lget T 5, lget T 6, lget T 7, H with
  | .ptr 0 0, .val (.int .i64 er), .val (.string d), .val (.bool ng), .val (.slice none 0 0), .val (.int .i64 i), [.row (.cells [.val (.bool rb), .val (.string rs)]) 40 .live] => bif T.length == 78 then some (κ er d ng ([] : List Int) i rb rs, .ret, sh_pX ((φ er d ng ([] : List Int) i rb rs).1) d ng ((φ er d ng ([] : List Int) i rb rs).2.1) ((φ er d ng ([] : List Int) i rb rs).2.2.1) ((φ er d ng ([] : List Int) i rb rs).2.2.2.1) ((φ er d ng ([] : List Int) i rb rs).2.2.2.2), hp_pX ((φ er d ng ([] : List Int) i rb rs).1) d ng ((φ er d ng ([] : List Int) i rb rs).2.1) ((φ er d ng ([] : List Int) i rb rs).2.2.1) ((φ er d ng ([] : List Int) i rb rs).2.2.2.1) ((φ er d ng ([] : List Int) i rb rs).2.2.2.2)) else none
  | _, _, _, _, _, _, _ => none
abbrev KT_pX : Type := Int → ByteArray → Bool → List Int → Int → Bool → ByteArray → Bool
abbrev FT_pX : Type := Int → ByteArray → Bool → List Int → Int → Bool → ByteArray → Int × List Int × Int × Bool × ByteArray
def LL_pX (κ : KT_pX) (φ : FT_pX) (L : LTab) : LTab := addLn 0 16 p_pX [2, 3, 4, 5, 6, 7] (told_pX κ φ) L
def phi_pX (er : Int) (d : ByteArray) (ng : Bool) (xs : List Int) (i : Int) (rb : Bool) (rs : ByteArray) : Int × List Int × Int × Bool × ByteArray := Classical.epsilon fun ρ => LoopTo Try.prog (lb 16 p_pX) (sh_pX er d ng xs i rb rs) (hp_pX er d ng xs i rb rs) (.ret) (sh_pX (ρ.1) d ng (ρ.2.1) (ρ.2.2.1) (ρ.2.2.2.1) (ρ.2.2.2.2)) (hp_pX (ρ.1) d ng (ρ.2.1) (ρ.2.2.1) (ρ.2.2.2.1) (ρ.2.2.2.2)) ∧ post_pX er d ng xs i rb rs ρ
theorem phi_pX_spec (er : Int) (d : ByteArray) (ng : Bool) (xs : List Int) (i : Int) (rb : Bool) (rs : ByteArray) (h : pre_pX er d ng xs i rb rs) : LoopTo Try.prog (lb 16 p_pX) (sh_pX er d ng xs i rb rs) (hp_pX er d ng xs i rb rs) (.ret) (sh_pX ((phi_pX er d ng xs i rb rs).1) d ng ((phi_pX er d ng xs i rb rs).2.1) ((phi_pX er d ng xs i rb rs).2.2.1) ((phi_pX er d ng xs i rb rs).2.2.2.1) ((phi_pX er d ng xs i rb rs).2.2.2.2)) (hp_pX ((phi_pX er d ng xs i rb rs).1) d ng ((phi_pX er d ng xs i rb rs).2.1) ((phi_pX er d ng xs i rb rs).2.2.1) ((phi_pX er d ng xs i rb rs).2.2.2.1) ((phi_pX er d ng xs i rb rs).2.2.2.2)) ∧ post_pX er d ng xs i rb rs (phi_pX er d ng xs i rb rs) := Classical.epsilon_spec (loop_pX er d ng xs i rb rs h)
def cond_pX (er : Int) (d : ByteArray) (ng : Bool) (xs : List Int) (i : Int) (rb : Bool) (rs : ByteArray) : Bool := @decide (pre_pX er d ng xs i rb rs) (Classical.propDecidable _)
theorem cond_pX_eq (er : Int) (d : ByteArray) (ng : Bool) (xs : List Int) (i : Int) (rb : Bool) (rs : ByteArray) (h : pre_pX er d ng xs i rb rs) : cond_pX er d ng xs i rb rs = true := @decide_eq_true _ (Classical.propDecidable _) h
theorem told_pX_ok (T : List AV) (H : Hp) (e : Ex) (T1 : List AV) (H1 : Hp) (h : told_pX cond_pX phi_pX T H = some (true, e, T1, H1)) : V.Ends Try.prog false 0 0 (.loop (lb 16 p_pX)) T H e T1 H1 := by
  unfold told_pX at h
  split at h
  · rename_i er d ng i rb rs h2 h3 h4 h5 h6 h7
    rw [Bool.cond_eq_ite] at h
    split at h
    · rename_i hlen
      rw [beq_iff_eq] at hlen
      simp only [Option.some.injEq, Prod.mk.injEq, Bool.and_eq_true, decide_eq_true_eq] at h
      obtain ⟨k1, rfl, rfl, rfl⟩ := h
      have kc := @of_decide_eq_true _ (Classical.propDecidable _) k1
      refine Ends.pre (phi_pX_spec er d ng ([] : List Int) i rb rs kc).1.ends (fun α B w D ys hr => slots_rel hlen (fun p hp y hy => ?_) hr)
      simp only [List.mem_cons, List.not_mem_nil, or_false] at hp
      rcases hp with rfl | rfl | rfl | rfl | rfl | rfl
      · rw [h2] at hy; exact hy
      · rw [h3] at hy; exact hy
      · rw [h4] at hy; exact hy
      · rw [h5] at hy; exact hy
      · rw [h6] at hy; exact nil_lst hy
      · rw [h7] at hy; exact hy
    · cases h
  · cases h
theorem LL_pX_ok {L : LTab} (h : LOk Try.prog L) : LOk Try.prog (LL_pX cond_pX phi_pX L) := h.add2n body_pX told_pX_ok
end
end Go.Proofs.Ytibaendebbicjaa.L
