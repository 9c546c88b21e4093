import Derived.Test.YtibaendebbicjaaGreatZL
import Derived.Test.YtibaendebbicjaaGreatZMA
import Derived.Test.YtibaendebbicjaaGreatZMD
set_option linter.unusedVariables false
set_option linter.unusedSimpArgs false
namespace Go.Proofs.YtibaendebbicjaaGreat.L
open Go Go.V Go.RowKit Go.Proofs.YtibaendebbicjaaGreat.Sp
open Go.Proofs (Tryz.prog)
noncomputable section
def dp:Nat→Nat→List Int
 | 0,_=> []
 | k+1,n=>((n % 10+48:Nat):Int) :: dp k (n / 10)
theorem dp_len:∀ (k n:Nat),(dp k n).length=k
 | 0,_=>rfl
 | k+1,n=>by unfold dp;rw [List.length_cons,dp_len k]
theorem dp_add:∀ (j k n:Nat),dp (j+k) n=dp j n ++ dp k (n / 10 ^ j)
 | 0,k,n=>by rw [Nat.zero_add,Nat.pow_zero,Nat.div_one];rfl
 | j+1,k,n=>by
  rw [show j+1+k=(j+k)+1 by omega]
  show ((n % 10+48:Nat):Int) :: dp (j+k) (n / 10)=(((n % 10+48:Nat):Int) :: dp j (n / 10)) ++ _
  rw [dp_add j k (n / 10),Nat.div_div_eq_div_mul,List.cons_append,Nat.pow_succ,Nat.mul_comm 10]
theorem dp_mod:∀ (k n:Nat),dp k (n % 10 ^ k)=dp k n
 | 0,n=>rfl
 | k+1,n=>by
  show ((n % 10 ^ (k+1) % 10+48:Nat):Int) :: dp k (n % 10 ^ (k+1) / 10)=((n % 10+48:Nat):Int) :: dp k (n / 10)
  have h1:n % 10 ^ (k+1) % 10=n % 10:=Nat.mod_mod_of_dvd n ⟨10 ^ k,by rw [Nat.pow_succ,Nat.mul_comm]⟩
  have h2:n % 10 ^ (k+1) / 10=n / 10 % 10 ^ k:=by rw [Nat.pow_succ,Nat.mul_comm,Nat.mod_mul_right_div_self]
  rw [h1,h2,dp_mod k]
theorem dp_zero:∀ k,dp k 0=List.replicate k 48
 | 0=>rfl
 | k+1=>by
  show (48:Int) :: dp k (0 / 10)=_
  rw [Nat.zero_div,dp_zero k];rfl
def dlF:Nat→Nat→Nat
 | 0,_=>0
 | f+1,n=>if n=0 then 0 else dlF f (n / 10)+1
def dl (n:Nat):Nat:=dlF n n
theorem dlF_spec:∀ (f n:Nat),n≤f→n < 10 ^ dlF f n∧(dlF f n=0∨10 ^ (dlF f n - 1)≤n)
 | 0,n,h=>by
  have:n=0:=by omega
  subst this
  exact ⟨by decide, .inl rfl⟩
 | f+1,n,h=>by
  unfold dlF
  by_cases h0:n=0
  ·rw [if_pos h0,h0];exact ⟨by decide, .inl rfl⟩
  ·rw [if_neg h0]
   obtain ⟨h1,h2⟩:=dlF_spec f (n / 10) (by omega)
   refine ⟨by rw [Nat.pow_succ];omega, .inr ?_⟩
   rw [Nat.add_sub_cancel]
   rcases h2 with h2 | h2
   ·rw [h2];omega
   ·cases hk:dlF f (n / 10) with
    | zero=>rw [Nat.pow_zero];omega
    | succ k=>rw [hk,Nat.add_sub_cancel] at h2;rw [Nat.pow_succ];omega
theorem dl_lt (n:Nat):n < 10 ^ dl n:=(dlF_spec n n (Nat.le_refl _)).1
theorem dl_ge (n:Nat):dl n=0∨10 ^ (dl n - 1)≤n:=(dlF_spec n n (Nat.le_refl _)).2
theorem dl_le {n k:Nat} (h:n < 10 ^ k):dl n≤k:=by
 refine Nat.le_of_not_lt fun hk=> ?_
 rcases dl_ge n with h1 | h1
 ·omega
 ·have:=Nat.pow_le_pow_right (show 0 < 10 by decide) (show k≤dl n - 1 by omega)
  omega
theorem dl_pos {n:Nat} (h:n≠0):0 < dl n:=by
 refine Nat.pos_of_ne_zero fun h0=> ?_
 have:=dl_lt n
 rw [h0] at this
 omega
theorem dp_more {n k:Nat} (h:n < 10 ^ k):dp k n=dp (dl n) n ++ List.replicate (k - dl n) 48:=by
 have h1:=dl_le h
 have h2:n / 10 ^ dl n=0:=Nat.div_eq_of_lt (dl_lt n)
 rw [show k=dl n+(k - dl n) by omega,dp_add,h2,dp_zero,Nat.add_sub_cancel_left]
theorem dp_get:∀ (k n i:Nat),i < k→(dp k n).getD i 0=((n / 10 ^ i % 10+48:Nat):Int)
 | 0,n,i,h=>by omega
 | k+1,n,0,h=>by show ((n % 10+48:Nat):Int)=_;rw [Nat.pow_zero,Nat.div_one]
 | k+1,n,i+1,h=>by
  show (dp k (n / 10)).getD i 0=_
  rw [dp_get k (n / 10) i (by omega),Nat.div_div_eq_div_mul,Nat.pow_succ,Nat.mul_comm 10]
theorem dp_top {n:Nat} (h:n≠0):(dp (dl n) n).getD (dl n - 1) 0≠48:=by
 have hp:=dl_pos h
 rw [dp_get _ _ _ (by omega)]
 have h1:=dl_lt n
 have h2:10 ^ (dl n - 1)≤n:=(dl_ge n).resolve_left (by omega)
 have h3:0 < 10 ^ (dl n - 1):=Nat.pow_pos (by decide)
 have h4:n / 10 ^ (dl n - 1) < 10:=by
  rw [Nat.div_lt_iff_lt_mul h3,Nat.mul_comm,← Nat.pow_succ,show (dl n - 1).succ=dl n by omega];exact h1
 have h5:1≤n / 10 ^ (dl n - 1):=by rw [Nat.le_div_iff_mul_le h3];omega
 omega
theorem dp_dig:∀ (k n:Nat),∀ z ∈ dp k n,∃ c:Nat,c < 10∧z=((c+48:Nat):Int)
 | 0,n,z,h=>by cases h
 | k+1,n,z,h=>by
  rcases List.mem_cons.1 h with rfl | h
  ·exact ⟨n % 10,by omega,rfl⟩
  ·exact dp_dig k _ z h
def txt (z:Int):ByteArray:=if z=0 then ⟨#[48]⟩ else ofBytes ((if z < 0 then [45] else []) ++ (dp (dl z.natAbs) z.natAbs).reverse)
def okt (s:ByteArray):Bool:=decide (s.size≤1000000)
def tPrt (S:Sg) (tx:Int→ByteArray):List AV→Option (Bool×AV):=fun args=>match args with | [.agg [.val (.bool b), .val (.string s)]]=>some (okt s, .val (.string (tx (S.val b s)))) | _=>none
theorem vs_pow (s:ByteArray):vS s < 10 ^ (9*s.size):=by
 refine Nat.lt_of_lt_of_le (vS_lt s) ?_
 rw [Nat.pow_mul]
 exact Nat.pow_le_pow_left (by decide) _
theorem dl_uniq {n j:Nat} (h1:n < 10 ^ j) (h2:j=0∨10 ^ (j - 1)≤n):j=dl n:=by
 have h3:=dl_le h1
 rcases Nat.lt_or_ge (dl n) j with h | h
 ·exfalso
  rcases h2 with h2 | h2
  ·omega
  ·have:=Nat.pow_le_pow_right (show 0 < 10 by decide) (show dl n≤j - 1 by omega)
   have:=dl_lt n
   omega
 ·omega
theorem dp_u8 (k n:Nat):∀ z ∈ (dp k n).reverse,∃ c:Nat,c < 256∧z=(c:Int):=by
 intro z hz
 obtain ⟨c,hc,rfl⟩:=dp_dig k n z (List.mem_reverse.1 hz)
 exact ⟨c+48,by omega,rfl⟩
def okb (l:List Int):Prop:=∀ z ∈ l,∃ c:Nat,c < 256∧z=(c:Int)
def vI (l:List Int):Nat:=l.foldl (fun n z=>n*256+z.toNat) 0
theorem vI_snoc (l:List Int) (c:Nat):vI (l ++ [(c:Int)])=vI l*256+c:=by simp [vI,List.foldl_append]
theorem okb_nil:okb []:=fun z h=>by cases h
theorem okb_snoc {l:List Int} {c:Nat} (h:okb l) (hc:c < 256):okb (l ++ [(c:Int)]):=by
 intro z hz
 rcases List.mem_append.1 hz with hz | hz
 ·exact h z hz
 ·rw [List.mem_singleton] at hz;exact ⟨c,hc,hz⟩
theorem okb_get {l:List Int} (h:okb l) {i:Nat} (hi:i < l.length):∃ c:Nat,c < 256∧l[i]=(c:Int)∧l.getD i 0=(c:Int):=by
 obtain ⟨c,hc,he⟩:=h l[i] (List.getElem_mem hi)
 exact ⟨c,hc,he,by rw [List.getD_eq_getElem?_getD,List.getElem?_eq_getElem hi,Option.getD_some,he]⟩
theorem set_mid (P:List Int) (x y:Int) (R:List Int):(P ++ x :: R).set P.length y=P ++ y :: R:=by
 rw [List.set_append_right _ _ (Nat.le_refl _),Nat.sub_self];rfl
theorem get_mid (P:List Int) (x:Int) (R:List Int):(P ++ x :: R).getD P.length 0=x:=by
 rw [List.getD_eq_getElem?_getD,List.getElem?_append_right (Nat.le_refl _),Nat.sub_self];rfl
end
end Go.Proofs.YtibaendebbicjaaGreat.L
namespace Go.Proofs.YtibaendebbicjaaGreat.L
open Go Go.V Go.RowKit Go.Proofs.YtibaendebbicjaaGreat.Sp
open Go.Proofs (Tryz.prog)
noncomputable section
def kck:List Nat:= [0,1,1003]
abbrev p_ck:List Bool:= [false]
def rcP:Rec:= ⟨slots 62 [(3, .ptr 1 0)],#[11],23, [false,true,false,true,true], .ready,none⟩
def sh_ck:List AV:=slots 16 [(0, .yld 3),(1, .ptr 2 0)]
def hpA_ck (b:Bool) (s:ByteArray) (xs:List Int):Hp:= [.row (.cells [.val (.bool b), .val (.string s)]) 38 .live, .row (.cells [.val (.slice none 0 0)]) 71 .live, .row (.cells [.lst false 58 xs.length (lim xs)]) 55 .live, .loop rcP]
def hpB_ck (b:Bool) (s:ByteArray) (xs zs:List Int):Hp:= [.row (.cells [.val (.bool b), .val (.string s)]) 38 .live, .row (.cells [.sl false 5 4 0 zs.length]) 71 .live, .row (.cells [.lst false 58 xs.length (lim xs)]) 55 .live, .loop rcP, .row (.ints .u8 zs) 5 .live]
def CCk (S:Sg):FuncId→List AV→Option (Bool×AV):=addC 77 (tShort S) noC
theorem round_ckA (S:Sg) (b:Bool) (s:ByteArray) (xs:List Int):letI q_5:=(Rec.mk rcP.T rcP.params (23:Nat) rcP.path LoopState.busy rcP.pend);letI q_1:=(Rec.mk q_5.T q_5.params (23:Nat) q_5.path LoopState.ready none);letI q_4:=(IntKind.u32.wrap ((↑(S.num xs.length (lim xs) % (1000000000:Nat)):Int).tdiv (10:Int)));letI q_2:=(IntKind.u32.wrap ((IntKind.u32.wrap (q_4.tdiv (10:Int))).tdiv (10:Int)));letI q_3:=(IntKind.u32.wrap ((IntKind.u32.wrap ((IntKind.u32.wrap (q_2.tdiv (10:Int))).tdiv (10:Int))).tdiv (10:Int)));
  (roundF Tryz.prog ⟨CCk S,fun _=>false,noL⟩ 4 76 kck (lb 76 p_ck) (false :: p_ck) sh_ck (hpA_ck b s xs)=(bif decide ((0:Int) < (↑xs.length:Int)) then (bif S.okr xs.length (lim xs)&&true&&true then some (.normal,slots 16 [(0,(.yld 3)),(1,(.ptr 2 0))], [(.row (.cells [(.val (.bool b)),(.val (.string s))]) 38 .live),(.row (.cells [(.sl false 5 4 0 9)]) 71 .live),(.row (.cells [(.lst false 58 (S.len (S.num xs.length (lim xs) / (1000000000:Nat))) (S.row (S.num xs.length (lim xs) / (1000000000:Nat))))]) 55 .live),(.loop (.mk [.any, .any, .any,(.ptr 1 0), .any, .any, .any, .any, .any, .any, .any, .any, .any, .any, .any, .any, .any, .any, .any, .any, .any, .any, .any, .any, .any, .any, .any, .any, .any, .any, .any, .any, .any, .any, .any, .any, .any, .any, .any, .any, .any, .any, .any, .any, .any, .any, .any, .any, .any, .any, .any, .any, .any, .any, .any, .any, .any, .any, .any, .any, .any, .any] ((Rec.mk (maskA (recMask kck) q_1.T) q_1.params (23:Nat) q_1.path q_1.st q_1.pend).params) 23 ((Rec.mk (maskA (recMask kck) q_1.T) q_1.params (23:Nat) q_1.path q_1.st q_1.pend).path) .ready .none)),(.row (.ints .u8 ([IntKind.u8.wrap (IntKind.u32.wrap ((48:Int)+(↑(S.num xs.length (lim xs) % (1000000000:Nat)):Int).tmod (10:Int))),IntKind.u8.wrap (IntKind.u32.wrap ((48:Int)+q_4.tmod (10:Int))),IntKind.u8.wrap (IntKind.u32.wrap ((48:Int)+(IntKind.u32.wrap (q_4.tdiv (10:Int))).tmod (10:Int))),IntKind.u8.wrap (IntKind.u32.wrap ((48:Int)+q_2.tmod (10:Int))),IntKind.u8.wrap (IntKind.u32.wrap ((48:Int)+(IntKind.u32.wrap (q_2.tdiv (10:Int))).tmod (10:Int))),IntKind.u8.wrap (IntKind.u32.wrap ((48:Int)+(IntKind.u32.wrap ((IntKind.u32.wrap (q_2.tdiv (10:Int))).tdiv (10:Int))).tmod (10:Int))),IntKind.u8.wrap (IntKind.u32.wrap ((48:Int)+q_3.tmod (10:Int))),IntKind.u8.wrap (IntKind.u32.wrap ((48:Int)+(IntKind.u32.wrap (q_3.tdiv (10:Int))).tmod (10:Int))),IntKind.u8.wrap (IntKind.u32.wrap ((48:Int)+(IntKind.u32.wrap ((IntKind.u32.wrap (q_3.tdiv (10:Int))).tdiv (10:Int))).tmod (10:Int)))])) 5 .live)]) else none) else some ((.exit 0),slots 16 [(0,(.yld 3)),(1,(.ptr 2 0))], [(.row (.cells [(.val (.bool b)),(.val (.string s))]) 38 .live),(.row (.cells [(.val (.slice .none 0 0))]) 71 .live),(.row (.cells [(.lst false 58 xs.length (lim xs))]) 55 .live),(.loop (.mk [.any, .any, .any,(.ptr 1 0), .any, .any, .any, .any, .any, .any, .any, .any, .any, .any, .any, .any, .any, .any, .any, .any, .any, .any, .any, .any, .any, .any, .any, .any, .any, .any, .any, .any, .any, .any, .any, .any, .any, .any, .any, .any, .any, .any, .any, .any, .any, .any, .any, .any, .any, .any, .any, .any, .any, .any, .any, .any, .any, .any, .any, .any, .any, .any] ((Rec.mk (maskA (recMask kck) rcP.T) rcP.params (23:Nat) rcP.path rcP.st rcP.pend).params) 23 ((Rec.mk (maskA (recMask kck) rcP.T) rcP.params (23:Nat) rcP.path rcP.st rcP.pend).path) .ready .none))]))):=by kernel_rfl
theorem round_ckB (S:Sg) (b:Bool) (s:ByteArray) (xs zs:List Int):letI q_18:=(zs.length+(1:Nat)+(1:Nat)+(1:Nat)+(1:Nat));letI q_20:=(zs.length+(1:Nat)+(1:Nat)+(1:Nat));letI q_7:=(List.take (zs.length*(1:Nat)) zs ++ [IntKind.u8.wrap (IntKind.u32.wrap ((48:Int)+(↑(S.num xs.length (lim xs) % (1000000000:Nat)):Int).tmod (10:Int)))]);letI q_6:=(IntKind.u32.wrap ((↑(S.num xs.length (lim xs) % (1000000000:Nat)):Int).tdiv (10:Int)));letI q_16:=(List.take ((zs.length+(1:Nat))*(1:Nat)) q_7 ++ [IntKind.u8.wrap (IntKind.u32.wrap ((48:Int)+q_6.tmod (10:Int)))]);letI q_4:=(List.take ((zs.length+(1:Nat)+(1:Nat))*(1:Nat)) q_16 ++ [IntKind.u8.wrap (IntKind.u32.wrap ((48:Int)+(IntKind.u32.wrap (q_6.tdiv (10:Int))).tmod (10:Int)))]);letI q_14:=(IntKind.u32.wrap ((IntKind.u32.wrap (q_6.tdiv (10:Int))).tdiv (10:Int)));letI q_9:=(List.take (q_20*(1:Nat)) q_4 ++ [IntKind.u8.wrap (IntKind.u32.wrap ((48:Int)+q_14.tmod (10:Int)))]);letI q_1:=(List.take (q_18*(1:Nat)) q_9 ++ [IntKind.u8.wrap (IntKind.u32.wrap ((48:Int)+(IntKind.u32.wrap (q_14.tdiv (10:Int))).tmod (10:Int)))]);letI q_15:=(Rec.mk rcP.T rcP.params (23:Nat) rcP.path LoopState.busy rcP.pend);letI q_2:=(Rec.mk q_15.T q_15.params (23:Nat) q_15.path LoopState.ready none);letI q_3:=(IntKind.u32.wrap ((IntKind.u32.wrap (q_14.tdiv (10:Int))).tdiv (10:Int)));letI q_13:=(zs.length+(1:Nat)+(1:Nat)+(1:Nat)+(1:Nat)+(1:Nat)+(1:Nat));letI q_11:=(zs.length+(1:Nat)+(1:Nat)+(1:Nat)+(1:Nat)+(1:Nat));letI q_19:=(List.take (q_11*(1:Nat)) q_1 ++ [IntKind.u8.wrap (IntKind.u32.wrap ((48:Int)+q_3.tmod (10:Int)))]);letI q_5:=(List.take (q_13*(1:Nat)) q_19 ++ [IntKind.u8.wrap (IntKind.u32.wrap ((48:Int)+(IntKind.u32.wrap (q_3.tdiv (10:Int))).tmod (10:Int)))]);letI q_8:=(zs.length+(1:Nat)+(1:Nat)+(1:Nat)+(1:Nat)+(1:Nat)+(1:Nat)+(1:Nat));letI q_10:=(zs.length+(1:Nat)+(1:Nat)+(1:Nat)+(1:Nat)+(1:Nat)+(1:Nat)+(1:Nat)+(1:Nat));letI q_12:=(List.take (q_8*(1:Nat)) q_5 ++ [IntKind.u8.wrap (IntKind.u32.wrap ((48:Int)+(IntKind.u32.wrap ((IntKind.u32.wrap (q_3.tdiv (10:Int))).tdiv (10:Int))).tmod (10:Int)))]);letI q_17:=(zs.length+(1:Nat)+(1:Nat)+(1:Nat)+(1:Nat)+(1:Nat)+(1:Nat)+(1:Nat)+(1:Nat)+(1:Nat));
  (roundF Tryz.prog ⟨CCk S,fun _=>false,noL⟩ 4 76 kck (lb 76 p_ck) (false :: p_ck) sh_ck (hpB_ck b s xs zs)=(bif decide ((0:Int) < (↑xs.length:Int)) then (bif S.okr xs.length (lim xs)&&true&&true then (bif decide (zs.length*(1:Nat)≤zs.length)&&roomA Tryz.prog (zs.length+(1:Nat)) (5:Nat)&&true then (bif decide ((zs.length+(1:Nat))*(1:Nat)≤q_7.length)&&roomA Tryz.prog (zs.length+(1:Nat)+(1:Nat)) (5:Nat)&&true then (bif decide ((zs.length+(1:Nat)+(1:Nat))*(1:Nat)≤q_16.length)&&roomA Tryz.prog q_20 (5:Nat)&&true then (bif decide (q_20*(1:Nat)≤q_4.length)&&roomA Tryz.prog q_18 (5:Nat)&&true then (bif decide (q_18*(1:Nat)≤q_9.length)&&roomA Tryz.prog q_11 (5:Nat)&&true then (bif decide (q_11*(1:Nat)≤q_1.length)&&roomA Tryz.prog q_13 (5:Nat)&&true then (bif decide (q_13*(1:Nat)≤q_19.length)&&roomA Tryz.prog q_8 (5:Nat)&&true then (bif decide (q_8*(1:Nat)≤q_5.length)&&roomA Tryz.prog q_10 (5:Nat)&&true then (bif decide (q_10*(1:Nat)≤q_12.length)&&roomA Tryz.prog q_17 (5:Nat)&&true then some (.normal,slots 16 [(0,(.yld 3)),(1,(.ptr 2 0))], [(.row (.cells [(.val (.bool b)),(.val (.string s))]) 38 .live),(.row (.cells [(.sl false 5 4 0 q_17)]) 71 .live),(.row (.cells [(.lst false 58 (S.len (S.num xs.length (lim xs) / (1000000000:Nat))) (S.row (S.num xs.length (lim xs) / (1000000000:Nat))))]) 55 .live),(.loop (.mk [.any, .any, .any,(.ptr 1 0), .any, .any, .any, .any, .any, .any, .any, .any, .any, .any, .any, .any, .any, .any, .any, .any, .any, .any, .any, .any, .any, .any, .any, .any, .any, .any, .any, .any, .any, .any, .any, .any, .any, .any, .any, .any, .any, .any, .any, .any, .any, .any, .any, .any, .any, .any, .any, .any, .any, .any, .any, .any, .any, .any, .any, .any, .any, .any] ((Rec.mk (maskA (recMask kck) q_2.T) q_2.params (23:Nat) q_2.path q_2.st q_2.pend).params) 23 ((Rec.mk (maskA (recMask kck) q_2.T) q_2.params (23:Nat) q_2.path q_2.st q_2.pend).path) .ready .none)),(.row (.ints .u8 (List.take (q_10*(1:Nat)) q_12 ++ [IntKind.u8.wrap (IntKind.u32.wrap ((48:Int)+(IntKind.u32.wrap ((IntKind.u32.wrap ((IntKind.u32.wrap (q_3.tdiv (10:Int))).tdiv (10:Int))).tdiv (10:Int))).tmod (10:Int)))])) 5 .live)]) else none) else none) else none) else none) else none) else none) else none) else none) else none) else none) else some ((.exit 0),slots 16 [(0,(.yld 3)),(1,(.ptr 2 0))], [(.row (.cells [(.val (.bool b)),(.val (.string s))]) 38 .live),(.row (.cells [(.sl false 5 4 0 zs.length)]) 71 .live),(.row (.cells [(.lst false 58 xs.length (lim xs))]) 55 .live),(.loop (.mk [.any, .any, .any,(.ptr 1 0), .any, .any, .any, .any, .any, .any, .any, .any, .any, .any, .any, .any, .any, .any, .any, .any, .any, .any, .any, .any, .any, .any, .any, .any, .any, .any, .any, .any, .any, .any, .any, .any, .any, .any, .any, .any, .any, .any, .any, .any, .any, .any, .any, .any, .any, .any, .any, .any, .any, .any, .any, .any, .any, .any, .any, .any, .any, .any] ((Rec.mk (maskA (recMask kck) rcP.T) rcP.params (23:Nat) rcP.path rcP.st rcP.pend).params) 23 ((Rec.mk (maskA (recMask kck) rcP.T) rcP.params (23:Nat) rcP.path rcP.st rcP.pend).path) .ready .none)),(.row (.ints .u8 zs) 5 .live)]))):=by kernel_rfl
theorem CCk_ok:Meets Tryz.prog (CCk sg0):=(meets_none _).add eShort
theorem body_ck:subC Tryz.prog 76 p_ck=some (.loop (lb 76 p_ck)):=by kernel_rfl
theorem code_ck:subC Tryz.prog 76 (false :: p_ck)=some (lb 76 p_ck):=by kernel_rfl
theorem step_ck {T:List AV} {H:Hp} {e:Ex} {T':List AV} {H':Hp} (h:roundF Tryz.prog ⟨CCk sg0,fun _=>false,noL⟩ 4 76 kck (lb 76 p_ck) (false :: p_ck) T H=some (e,T',H')):V.Ends Tryz.prog false 4 0 (lb 76 p_ck) T H e T' H':=
 round_endsF CCk_ok loops_none mixed code_ck h
theorem dgt (c:Nat):IntKind.u8.wrap (IntKind.u32.wrap (48+((c:Nat):Int).tmod 10))=((c % 10+48:Nat):Int):=by
 have e:((c:Nat):Int).tmod 10=((c % 10:Nat):Int):=rfl
 rw [e,IntKind.wrap_u32,IntKind.wrap_u8]
 omega
theorem dvt (c:Nat) (h:c < 4294967296):IntKind.u32.wrap (((c:Nat):Int).tdiv 10)=((c / 10:Nat):Int):=by
 have e:((c:Nat):Int).tdiv 10=((c / 10:Nat):Int):=rfl
 rw [e,IntKind.wrap_u32]
 omega
theorem len_pow {n k:Nat} (h:n < 10 ^ (9*k)):(toL n).length≤4*k:=by
 refine Nat.le_trans (len_bs n) (bs_le (Nat.lt_of_lt_of_le h ?_))
 rw [Nat.pow_mul,Nat.pow_mul]
 exact Nat.pow_le_pow_left (by decide) k
theorem num_toL (n:Nat):sg0.num (toL n).length (lim (toL n))=n:=num_row n
theorem ok_toL {n k:Nat} (h:n < 10 ^ (9*k)) (hk:k≤1000000000):sg0.okr (toL n).length (lim (toL n))=true:=by
 have h1:=len_pow h
 show (okB (toL n).length (lim (toL n))&&decide ((toL n).length≤17592186044416))=true
 rw [okB_enc,decide_eq_true (show (toL n).length≤17592186044416 by omega)]
 rfl
theorem toL_posI {n:Nat} (h:n≠0):(0:Int) < ((toL n).length:Int):=by
 rcases Nat.eq_zero_or_pos (toL n).length with h1 | h1
 ·have h2:=vL_toL n
  rw [List.eq_nil_of_length_eq_zero h1] at h2
  exact absurd h2.symm h
 ·omega
theorem ck_step (b:Bool) (s:ByteArray) {n k:Nat} (h0:n≠0) (h:n < 10 ^ (9*k)) (hk:k≤1000000000):
  V.Ends Tryz.prog false 4 0 (lb 76 p_ck) sh_ck (hpA_ck b s (toL n)) .normal sh_ck (hpB_ck b s (toL (n / 10 ^ 9)) (dp 9 n))∧
  ∀ zs:List Int,zs.length≤1000000000000→V.Ends Tryz.prog false 4 0 (lb 76 p_ck) sh_ck (hpB_ck b s (toL n) zs) .normal sh_ck (hpB_ck b s (toL (n / 10 ^ 9)) (zs ++ dp 9 n)):=by
 have hc:n % 1000000000 < 1000000000:=Nat.mod_lt _ (by decide)
 have e9:dp 9 n=dp 9 (n % 1000000000):=(dp_mod 9 n).symm
 constructor
 ·refine step_ck ?_
  rw [round_ckA,num_toL,ok_toL h hk,dT (toL_posI h0),e9]
  generalize n % 1000000000=c at*
  simp only [dgt,dvt c (by omega),dvt (c / 10) (by omega),dvt (c / 10 / 10) (by omega),dvt (c / 10 / 10 / 10) (by omega),dvt (c / 10 / 10 / 10 / 10) (by omega),dvt (c / 10 / 10 / 10 / 10 / 10) (by omega),dvt (c / 10 / 10 / 10 / 10 / 10 / 10) (by omega),dvt (c / 10 / 10 / 10 / 10 / 10 / 10 / 10) (by omega)]
  rfl
 ·intro zs hz
  refine step_ck ?_
  rw [round_ckB,num_toL,ok_toL h hk,dT (toL_posI h0),e9]
  generalize n % 1000000000=c at*
  simp only [dgt,dvt c (by omega),dvt (c / 10) (by omega),dvt (c / 10 / 10) (by omega),dvt (c / 10 / 10 / 10) (by omega),dvt (c / 10 / 10 / 10 / 10) (by omega),dvt (c / 10 / 10 / 10 / 10 / 10) (by omega),dvt (c / 10 / 10 / 10 / 10 / 10 / 10) (by omega),dvt (c / 10 / 10 / 10 / 10 / 10 / 10 / 10) (by omega)]
  simp only [Nat.mul_one,Nat.add_assoc,Nat.reduceAdd,List.take_length,List.take_of_length_le,List.length_append,List.length_cons,List.length_nil,Nat.le_refl,Nat.zero_add,List.append_assoc,List.cons_append,List.nil_append,decide_true]
  rw [room5 (zs.length+1) (by omega),room5 (zs.length+2) (by omega),room5 (zs.length+3) (by omega),room5 (zs.length+4) (by omega),room5 (zs.length+5) (by omega),room5 (zs.length+6) (by omega),room5 (zs.length+7) (by omega),room5 (zs.length+8) (by omega),room5 (zs.length+9) (by omega)]
  unfold hpB_ck
  rw [List.length_append,dp_len]
  rfl
theorem ck_end (b:Bool) (s:ByteArray) (zs:List Int):V.Ends Tryz.prog false 4 0 (lb 76 p_ck) sh_ck (hpB_ck b s (toL 0) zs) (.exit 0) sh_ck (hpB_ck b s [] zs):=by
 refine step_ck ?_
 have e:toL 0= []:=toL_zero
 rw [e,round_ckB,dF (show ¬ (0:Int) < (([]:List Int).length:Int) by decide)]
 rfl
theorem ck_go (b:Bool) (s:ByteArray):∀ (k n:Nat) (zs:List Int),n < 10 ^ (9*k)→k≤1000000000→zs.length+9*k≤1000000000000→∃ m,m≤k∧n < 10 ^ (9*m)∧LoopToB Tryz.prog 4 (lb 76 p_ck) sh_ck (hpB_ck b s (toL n) zs) (.exit 0) sh_ck (hpB_ck b s [] (zs ++ dp (9*m) n)):=by
 intro k
 induction k with
 | zero=>
  intro n zs h hk hz
  have:n=0:=by rw [Nat.mul_zero,Nat.pow_zero] at h;omega
  subst this
  refine ⟨0,Nat.le_refl _,by decide, ?_⟩
  rw [show zs ++ dp (9*0) 0=zs from List.append_nil zs]
  exact .last (ck_end b s zs) (by intro h;cases h)
 | succ k ih=>
  intro n zs h hk hz
  by_cases h0:n=0
  ·subst h0
   refine ⟨0,Nat.zero_le _,by decide, ?_⟩
   rw [show zs ++ dp (9*0) 0=zs from List.append_nil zs]
   exact .last (ck_end b s zs) (by intro h;cases h)
  ·have hd:n / 10 ^ 9 < 10 ^ (9*k):=by
    rw [Nat.div_lt_iff_lt_mul (by decide),← Nat.pow_add,show 9*k+9=9*(k+1) by omega];exact h
   obtain ⟨m,h1,h2,h3⟩:=ih (n / 10 ^ 9) (zs ++ dp 9 n) hd (by omega) (by rw [List.length_append,dp_len];omega)
   refine ⟨m+1,by omega, ?_, ?_⟩
   ·rw [show 9*(m+1)=9*m+9 by omega,Nat.pow_add,← Nat.div_lt_iff_lt_mul (by decide)];exact h2
   ·rw [show 9*(m+1)=9+9*m by omega,dp_add,← List.append_assoc]
    exact .more ((ck_step b s h0 h hk).2 zs (by omega)) h3
theorem ck_all (b:Bool) (s:ByteArray) {k n:Nat} (h0:n≠0) (h:n < 10 ^ (9*k)) (hk:k≤1000000000):∃ j,j≤9*k∧n < 10 ^ j∧LoopToB Tryz.prog 4 (lb 76 p_ck) sh_ck (hpA_ck b s (toL n)) (.exit 0) sh_ck (hpB_ck b s [] (dp j n)):=by
 cases k with
 | zero=>rw [Nat.mul_zero,Nat.pow_zero] at h;omega
 | succ k=>
  have hd:n / 10 ^ 9 < 10 ^ (9*k):=by
   rw [Nat.div_lt_iff_lt_mul (by decide),← Nat.pow_add,show 9*k+9=9*(k+1) by omega];exact h
  obtain ⟨m,h1,h2,h3⟩:=ck_go b s k (n / 10 ^ 9) (dp 9 n) hd (by omega) (by rw [dp_len];omega)
  refine ⟨9+9*m,by omega, ?_, ?_⟩
  ·rw [Nat.add_comm,Nat.pow_add,← Nat.div_lt_iff_lt_mul (by decide)];exact h2
  ·rw [dp_add]
   exact .more (ck_step b s h0 h hk).1 h3
abbrev KT_ck:Type:=Bool→ByteArray→Nat→(Nat→Nat→AV)→Rec→Bool
abbrev FT_ck:Type:=Bool→ByteArray→Nat→(Nat→Nat→AV)→List Int
def told_ck (κ:KT_ck) (φ:FT_ck) (T:List AV) (H:Hp):Option (Bool×Ex×List AV×Hp):=
 match lget T 0,lget T 1,H with
 | .yld 3, .ptr 2 0, [.row (.cells [.val (.bool b), .val (.string s)]) 38 .live, .row (.cells [.val (.slice none 0 0)]) 71 .live, .row (.cells [.lst false 58 m f]) 55 .live, .loop r]=>bif T.length==16 then some (κ b s m f r, .exit 0,sh_ck,hpB_ck b s [] (φ b s m f)) else none
 | _,_,_=>none
def LL_ck (κ:KT_ck) (φ:FT_ck) (L:LTab):LTab:=addLn 4 76 p_ck kck (told_ck κ φ) L
def post_ck (b:Bool) (s:ByteArray) (m:Nat) (f:Nat→Nat→AV) (zs:List Int):Prop:=∃ n j,m=(toL n).length∧f=lim (toL n)∧j≤1000000000∧n < 10 ^ j∧zs=dp j n∧LoopToB Tryz.prog 4 (lb 76 p_ck) sh_ck (hpA_ck b s (toL n)) (.exit 0) sh_ck (hpB_ck b s [] zs)
def pre_ck (m:Nat) (f:Nat→Nat→AV) (r:Rec):Prop:=r=rcP∧∃ n k,n≠0∧n < 10 ^ (9*k)∧k≤100000000∧m=(toL n).length∧f=lim (toL n)
def phi_ck (b:Bool) (s:ByteArray) (m:Nat) (f:Nat→Nat→AV):List Int:=Classical.epsilon (post_ck b s m f)
def cond_ck (b:Bool) (s:ByteArray) (m:Nat) (f:Nat→Nat→AV) (r:Rec):Bool:= @decide (pre_ck m f r) (Classical.propDecidable _)
theorem phi_ck_spec (b:Bool) (s:ByteArray) {m:Nat} {f:Nat→Nat→AV} {r:Rec} (h:pre_ck m f r):post_ck b s m f (phi_ck b s m f):=by
 obtain ⟨_,n,k,h0,h1,hk,h2,h3⟩:=h
 obtain ⟨j,h4,h5,h6⟩:=ck_all b s h0 h1 (by omega)
 exact Classical.epsilon_spec (p:=post_ck b s m f) ⟨dp j n,n,j,h2,h3,by omega,h5,rfl,h6⟩
theorem cond_ck_eq (b:Bool) (s:ByteArray) {m:Nat} {f:Nat→Nat→AV} {r:Rec} (h:pre_ck m f r):cond_ck b s m f r=true:= @decide_eq_true _ (Classical.propDecidable _) h
theorem told_ck_ok (T:List AV) (H:Hp) (e:Ex) (T1:List AV) (H1:Hp) (h:told_ck cond_ck phi_ck T H=some (true,e,T1,H1)):V.Ends Tryz.prog false 4 0 (.loop (lb 76 p_ck)) T H e T1 H1:=by
 unfold told_ck at h
 split at h
 ·rename_i b s m f r h0 h1
  rw [Bool.cond_eq_ite] at h
  split at h
  ·rename_i hlen
   rw [beq_iff_eq] at hlen
   simp only [Option.some.injEq,Prod.mk.injEq] at h
   obtain ⟨k1,rfl,rfl,rfl⟩:=h
   have kc:pre_ck m f r:= @of_decide_eq_true _ (Classical.propDecidable _) k1
   have hs:=phi_ck_spec b s kc
   obtain ⟨n,j,e1,e2,_,_,_,h6⟩:=hs
   rw [kc.1]
   subst e1 e2
   refine Ends.pre h6.ends (fun α B w D ys hr=>slots_rel hlen (fun p hp y hy=> ?_) hr)
   simp only [List.mem_cons,List.not_mem_nil,or_false] at hp
   rcases hp with rfl | rfl
   ·rw [h0] at hy;exact hy
   ·rw [h1] at hy;exact hy
  ·cases h
 ·cases h
theorem LL_ck_ok {L:LTab} (h:LOk Tryz.prog L):LOk Tryz.prog (LL_ck cond_ck phi_ck L):=h.add2n body_ck told_ck_ok
end
end Go.Proofs.YtibaendebbicjaaGreat.L
namespace Go.Proofs.YtibaendebbicjaaGreat.L
open Go Go.V Go.RowKit Go.Proofs.YtibaendebbicjaaGreat.Sp
open Go.Proofs (Tryz.prog)
noncomputable section
abbrev p_tz:List Bool:= [false,false,true,true,true]
def sh_tz (b:Bool) (s:ByteArray) (n:Nat) (zs:List Int):List AV:=slots 62 [(1, .ptr 0 0),(3, .ptr 1 0)]
def hp_tz (b:Bool) (s:ByteArray) (n:Nat) (zs:List Int):Hp:= [.row (.cells [.val (.bool b), .val (.string s)]) 38 .live, .row (.cells [.sl false 5 2 0 n]) 71 .live, .row (.ints .u8 zs) 5 .live]
theorem body_tz:subC Tryz.prog 23 p_tz=some (.loop (lb 23 p_tz)):=by kernel_rfl
theorem code_tz:subC Tryz.prog 23 (false :: p_tz)=some (lb 23 p_tz):=by kernel_rfl
theorem round_tz (b:Bool) (s:ByteArray) (n:Nat) (zs:List Int):
  (roundA Tryz.prog EL0 23 [1,3] (lb 23 p_tz) (false :: p_tz) (sh_tz b s n zs) (hp_tz b s n zs)=(bif decide ((0:Int) < (↑n:Int)) then (bif inR IntKind.i64 ((↑n:Int) - (1:Int)) then (bif decide ((0:Int)≤(↑n:Int) - (1:Int))&&decide ((↑n:Int) - (1:Int) < (↑n:Int)) then (bif decide ((0:Nat)+((↑n:Int) - (1:Int)).toNat*(1:Nat) < zs.length) then (bif decide (zs.getD ((0:Nat)+((↑n:Int) - (1:Int)).toNat*(1:Nat)) (0:Int)=(48:Int)) then (bif inR IntKind.i64 ((↑n:Int) - (1:Int)) then (bif decide ((0:Int)≤(↑n:Int) - (1:Int))&&decide ((↑n:Int) - (1:Int)≤(↑n:Int)) then some (.normal,slots 62 [(1,(.ptr 0 0)),(3,(.ptr 1 0))], [(.row (.cells [(.val (.bool b)),(.val (.string s))]) 38 .live),(.row (.cells [(.sl false 5 2 0 (((↑n:Int) - (1:Int)).toNat - (0:Nat)))]) 71 .live),(.row (.ints .u8 zs) 5 .live)]) else none) else none) else some ((.exit 4),slots 62 [(1,(.ptr 0 0)),(3,(.ptr 1 0))], [(.row (.cells [(.val (.bool b)),(.val (.string s))]) 38 .live),(.row (.cells [(.sl false 5 2 0 n)]) 71 .live),(.row (.ints .u8 zs) 5 .live)])) else none) else none) else none) else some ((.exit 4),slots 62 [(1,(.ptr 0 0)),(3,(.ptr 1 0))], [(.row (.cells [(.val (.bool b)),(.val (.string s))]) 38 .live),(.row (.cells [(.sl false 5 2 0 n)]) 71 .live),(.row (.ints .u8 zs) 5 .live)]))):=by kernel_rfl
theorem step_tz {b:Bool} {s:ByteArray} {n:Nat} {zs:List Int} {e:Ex} {T:List AV} {H:Hp} (h:roundA Tryz.prog EL0 23 [1,3] (lb 23 p_tz) (false :: p_tz) (sh_tz b s n zs) (hp_tz b s n zs)=some (e,T,H)):V.Ends Tryz.prog false 0 0 (lb 23 p_tz) (sh_tz b s n zs) (hp_tz b s n zs) e T H:=
 round_ends (meets_none _) loops_none mixed code_tz h
def pre_tz (b:Bool) (s:ByteArray) (n:Nat) (zs:List Int):Prop:=n≤zs.length∧zs.length≤1000000000000
def post_tz (b:Bool) (s:ByteArray) (n:Nat) (zs:List Int) (r:Nat):Prop:=r≤n∧(∀ i,r≤i→i < n→zs.getD i 0=48)∧(r=0∨zs.getD (r - 1) 0≠48)
theorem loop_tz (b:Bool) (s:ByteArray) (n:Nat) (zs:List Int) (h:pre_tz b s n zs):∃ r:Nat,LoopTo Tryz.prog (lb 23 p_tz) (sh_tz b s n zs) (hp_tz b s n zs) (.exit 4) (sh_tz b s r zs) (hp_tz b s r zs)∧post_tz b s n zs r:=by
 obtain ⟨h1,h2⟩:=h
 induction n with
 | zero=>
  refine ⟨0, .last (step_tz ?_) (by intro h;cases h),Nat.le_refl _,fun i hi h=>by omega, .inl rfl⟩
  rw [round_tz,dF (show ¬ (0:Int) < ((0:Nat):Int) by decide)]
  rfl
 | succ n ih=>
  have hr:=round_tz b s (n+1) zs
  have e1:(((n+1:Nat):Int) - 1)=(n:Int):=by omega
  rw [e1,dT (show (0:Int) < ((n+1:Nat):Int) by omega),i64T (z:=(n:Int)) (by omega),dT (show (0:Int)≤(n:Int) by omega),dT (show (n:Int) < ((n+1:Nat):Int) by omega),dT (show (n:Int)≤((n+1:Nat):Int) by omega),Int.toNat_natCast,Nat.mul_one,Nat.zero_add,dT (show n < zs.length by omega)] at hr
  by_cases hz:zs.getD n 0=48
  ·rw [dT hz] at hr
   obtain ⟨r,k1,k2,k3,k4⟩:=ih (by omega)
   refine ⟨r, .more (step_tz hr) k1,by omega,fun i h3 h4=> ?_,k4⟩
   by_cases hi:i=n
   ·rw [hi];exact hz
   ·exact k3 i h3 (by omega)
  ·rw [dF hz] at hr
   exact ⟨n+1, .last (step_tz hr) (by intro h;cases h),Nat.le_refl _,fun i h3 h4=>by omega, .inr (by rw [Nat.add_sub_cancel];exact hz)⟩
def told_tz (κ:Bool→ByteArray→Nat→List Int→Bool) (φ:Bool→ByteArray→Nat→List Int→Nat) (T:List AV) (H:Hp):Option (Bool×Ex×List AV×Hp):=
 match lget T 1,lget T 3,H with
 | .ptr 0 0, .ptr 1 0, [.row (.cells [.val (.bool b), .val (.string s)]) 38 .live, .row (.cells [.sl false 5 2 0 n]) 71 .live, .row (.ints .u8 zs) 5 .live]=>bif T.length==62 then some (κ b s n zs, .exit 4,sh_tz b s ((φ b s n zs)) zs,hp_tz b s ((φ b s n zs)) zs) else none
 | _,_,_=>none
abbrev KT_tz:Type:=Bool→ByteArray→Nat→List Int→Bool
abbrev FT_tz:Type:=Bool→ByteArray→Nat→List Int→Nat
def LL_tz (κ:KT_tz) (φ:FT_tz) (L:LTab):LTab:=addLn 0 23 p_tz [1,3] (told_tz κ φ) L
def phi_tz (b:Bool) (s:ByteArray) (n:Nat) (zs:List Int):Nat:=Classical.epsilon fun ρ=>LoopTo Tryz.prog (lb 23 p_tz) (sh_tz b s n zs) (hp_tz b s n zs) (.exit 4) (sh_tz b s (ρ) zs) (hp_tz b s (ρ) zs)∧post_tz b s n zs ρ
theorem phi_tz_spec (b:Bool) (s:ByteArray) (n:Nat) (zs:List Int) (h:pre_tz b s n zs):LoopTo Tryz.prog (lb 23 p_tz) (sh_tz b s n zs) (hp_tz b s n zs) (.exit 4) (sh_tz b s ((phi_tz b s n zs)) zs) (hp_tz b s ((phi_tz b s n zs)) zs)∧post_tz b s n zs (phi_tz b s n zs):=Classical.epsilon_spec (loop_tz b s n zs h)
def cond_tz (b:Bool) (s:ByteArray) (n:Nat) (zs:List Int):Bool:= @decide (pre_tz b s n zs) (Classical.propDecidable _)
theorem cond_tz_eq (b:Bool) (s:ByteArray) (n:Nat) (zs:List Int) (h:pre_tz b s n zs):cond_tz b s n zs=true:= @decide_eq_true _ (Classical.propDecidable _) h
theorem told_tz_ok (T:List AV) (H:Hp) (e:Ex) (T1:List AV) (H1:Hp) (h:told_tz cond_tz phi_tz T H=some (true,e,T1,H1)):V.Ends Tryz.prog false 0 0 (.loop (lb 23 p_tz)) T H e T1 H1:=by
 unfold told_tz at h
 split at h
 ·rename_i b s n zs h1 h3
  rw [Bool.cond_eq_ite] at h
  split at h
  ·rename_i hlen
   rw [beq_iff_eq] at hlen
   simp only [Option.some.injEq,Prod.mk.injEq,Bool.and_eq_true,decide_eq_true_eq] at h
   obtain ⟨k1,rfl,rfl,rfl⟩:=h
   have kc:= @of_decide_eq_true _ (Classical.propDecidable _) k1
   refine Ends.pre (phi_tz_spec b s n zs kc).1.ends (fun α B w D ys hr=>slots_rel hlen (fun p hp y hy=> ?_) hr)
   simp only [List.mem_cons,List.not_mem_nil,or_false] at hp
   rcases hp with rfl | rfl
   ·rw [h1] at hy;exact hy
   ·rw [h3] at hy;exact hy
  ·cases h
 ·cases h
theorem LL_tz_ok {L:LTab} (h:LOk Tryz.prog L):LOk Tryz.prog (LL_tz cond_tz phi_tz L):=h.add2n body_tz told_tz_ok
abbrev p_wB:List Bool:= [false,true,false,true,true,true,true,true,true]
def sh_wB (i:Int) (n:Nat) (zs:List Int) (ws:List Int):List AV:=slots 62 [(3, .ptr 0 0),(5, .ptr 1 0),(6, .val (.int .i64 i))]
def hp_wB (i:Int) (n:Nat) (zs:List Int) (ws:List Int):Hp:= [.row (.cells [.sl false 5 2 0 n]) 71 .live, .row (.cells [.ptr 1 0, .sl false 5 3 0 ws.length]) 80 .live, .row (.ints .u8 zs) 5 .live, .row (.ints .u8 ws) 5 .live]
theorem body_wB:subC Tryz.prog 23 p_wB=some (.loop (lb 23 p_wB)):=by kernel_rfl
theorem code_wB:subC Tryz.prog 23 (false :: p_wB)=some (lb 23 p_wB):=by kernel_rfl
theorem round_wB (i:Int) (n:Nat) (zs:List Int) (ws:List Int):roundA Tryz.prog EL0 23 [3,5,6] (lb 23 p_wB) (false :: p_wB) (sh_wB i n zs ws) (hp_wB i n zs ws)=
  (bif decide ((0:Int)≤i) then (bif decide ((0:Int)≤i)&&decide (i < (↑n:Int)) then (bif decide ((0:Nat)+i.toNat*(1:Nat) < zs.length) then (bif decide (ws.length*(1:Nat)≤ws.length)&&roomA Tryz.prog (ws.length+(1:Nat)) (5:Nat)&&true then (bif inR IntKind.i64 (i - (1:Int)) then some (.normal,slots 62 [(3,(.ptr 0 0)),(5,(.ptr 1 0)),(6,(.val (.int .i64 (i - (1:Int)))))], [(.row (.cells [(.sl false 5 2 0 n)]) 71 .live),(.row (.cells [(.ptr 1 0),(.sl false 5 3 0 (ws.length+(1:Nat)))]) 80 .live),(.row (.ints .u8 zs) 5 .live),(.row (.ints .u8 (List.take (ws.length*(1:Nat)) ws ++ [zs.getD ((0:Nat)+i.toNat*(1:Nat)) (0:Int)])) 5 .live)]) else none) else none) else none) else none) else some ((.exit 7),slots 62 [(3,(.ptr 0 0)),(5,(.ptr 1 0)),(6,(.val (.int .i64 i)))], [(.row (.cells [(.sl false 5 2 0 n)]) 71 .live),(.row (.cells [(.ptr 1 0),(.sl false 5 3 0 ws.length)]) 80 .live),(.row (.ints .u8 zs) 5 .live),(.row (.ints .u8 ws) 5 .live)])):=by kernel_rfl
theorem step_wB {i:Int} {n:Nat} {zs:List Int} {ws:List Int} {e:Ex} {T:List AV} {H:Hp} (h:roundA Tryz.prog EL0 23 [3,5,6] (lb 23 p_wB) (false :: p_wB) (sh_wB i n zs ws) (hp_wB i n zs ws)=some (e,T,H)):V.Ends Tryz.prog false 0 0 (lb 23 p_wB) (sh_wB i n zs ws) (hp_wB i n zs ws) e T H:=
 round_ends (meets_none _) loops_none mixed code_wB h
def pre_wB (i:Int) (n:Nat) (zs ws:List Int):Prop:=i=(n:Int) - 1∧n≤zs.length∧zs.length≤1000000000000∧ws.length≤1000000000000
def post_wB (i:Int) (n:Nat) (zs ws:List Int) (r:Int×List Int):Prop:=r.2=ws ++ (zs.take n).reverse
theorem rev_take (zs:List Int) (k:Nat) (h:k < zs.length):(zs.take (k+1)).reverse=zs.getD k 0 :: (zs.take k).reverse:=by
 rw [List.take_succ_eq_append_getElem h,List.reverse_append,List.getD_eq_getElem?_getD,List.getElem?_eq_getElem h]
 rfl
theorem wB_go (n:Nat) (zs:List Int) (hn:n≤zs.length) (hz:zs.length≤1000000000000):∀ (k:Nat) (ws:List Int),k≤n→ws.length+k≤3000000000000→LoopTo Tryz.prog (lb 23 p_wB) (sh_wB ((k:Int) - 1) n zs ws) (hp_wB ((k:Int) - 1) n zs ws) (.exit 7) (sh_wB (-1) n zs (ws ++ (zs.take k).reverse)) (hp_wB (-1) n zs (ws ++ (zs.take k).reverse)):=by
 intro k
 induction k with
 | zero=>
  intro ws hk hl
  refine .last (step_wB ?_) (by intro h;cases h)
  rw [round_wB,dF (show ¬ (0:Int)≤((0:Nat):Int) - 1 by decide),List.take_zero,List.reverse_nil,List.append_nil]
  rfl
 | succ k ih=>
  intro ws hk hl
  have hr:=round_wB (((k+1:Nat):Int) - 1) n zs ws
  have e1:(((k+1:Nat):Int) - 1)=(k:Int):=by omega
  rw [e1,dT (show (0:Int)≤(k:Int) by omega),dT (show (k:Int) < (n:Int) by omega),Int.toNat_natCast,Nat.mul_one,Nat.mul_one,Nat.zero_add,dT (show k < zs.length by omega),dT (show ws.length≤ws.length by omega),room5 (ws.length+1) (by omega),i64T (z:=(k:Int) - 1) (by omega),List.take_length] at hr
  rw [e1]
  have:=ih (ws ++ [zs.getD k 0]) (by omega) (by rw [List.length_append];show ws.length+1+k≤_;omega)
  rw [rev_take zs k (by omega),show ws ++ zs.getD k 0 :: (zs.take k).reverse=ws ++ [zs.getD k 0] ++ (zs.take k).reverse by rw [List.append_assoc];rfl]
  refine .more (step_wB (T:=sh_wB ((k:Int) - 1) n zs (ws ++ [zs.getD k 0])) (H:=hp_wB ((k:Int) - 1) n zs (ws ++ [zs.getD k 0])) ?_) this
  rw [hr]
  unfold sh_wB hp_wB
  rw [List.length_append]
  rfl
theorem loop_wB (i:Int) (n:Nat) (zs ws:List Int) (h:pre_wB i n zs ws):∃ r:Int×List Int,LoopTo Tryz.prog (lb 23 p_wB) (sh_wB i n zs ws) (hp_wB i n zs ws) (.exit 7) (sh_wB r.1 n zs r.2) (hp_wB r.1 n zs r.2)∧post_wB i n zs ws r:=by
 obtain ⟨rfl,h1,h2,h3⟩:=h
 exact ⟨(-1,ws ++ (zs.take n).reverse),wB_go n zs h1 h2 n ws (Nat.le_refl _) (by omega),rfl⟩
def told_wB (κ:Int→Nat→List Int→List Int→Bool) (φ:Int→Nat→List Int→List Int→Int×List Int) (T:List AV) (H:Hp):Option (Bool×Ex×List AV×Hp):=
 match lget T 3,lget T 5,lget T 6,H with
 | .ptr 0 0, .ptr 1 0, .val (.int .i64 i), [.row (.cells [.sl false 5 2 0 n]) 71 .live, .row (.cells [.ptr 1 0, .sl false 5 3 0 mh_ws]) 80 .live, .row (.ints .u8 zs) 5 .live, .row (.ints .u8 ws) 5 .live]=>bif T.length==62 then some (decide (mh_ws=ws.length)&&κ i n zs ws, .exit 7,sh_wB ((φ i n zs ws).1) n zs ((φ i n zs ws).2),hp_wB ((φ i n zs ws).1) n zs ((φ i n zs ws).2)) else none
 | _,_,_,_=>none
abbrev KT_wB:Type:=Int→Nat→List Int→List Int→Bool
abbrev FT_wB:Type:=Int→Nat→List Int→List Int→Int×List Int
def LL_wB (κ:KT_wB) (φ:FT_wB) (L:LTab):LTab:=addLn 0 23 p_wB [3,5,6] (told_wB κ φ) L
def phi_wB (i:Int) (n:Nat) (zs:List Int) (ws:List Int):Int×List Int:=Classical.epsilon fun ρ=>LoopTo Tryz.prog (lb 23 p_wB) (sh_wB i n zs ws) (hp_wB i n zs ws) (.exit 7) (sh_wB (ρ.1) n zs (ρ.2)) (hp_wB (ρ.1) n zs (ρ.2))∧post_wB i n zs ws ρ
theorem phi_wB_spec (i:Int) (n:Nat) (zs:List Int) (ws:List Int) (h:pre_wB i n zs ws):LoopTo Tryz.prog (lb 23 p_wB) (sh_wB i n zs ws) (hp_wB i n zs ws) (.exit 7) (sh_wB ((phi_wB i n zs ws).1) n zs ((phi_wB i n zs ws).2)) (hp_wB ((phi_wB i n zs ws).1) n zs ((phi_wB i n zs ws).2))∧post_wB i n zs ws (phi_wB i n zs ws):=Classical.epsilon_spec (loop_wB i n zs ws h)
def cond_wB (i:Int) (n:Nat) (zs:List Int) (ws:List Int):Bool:= @decide (pre_wB i n zs ws) (Classical.propDecidable _)
theorem cond_wB_eq (i:Int) (n:Nat) (zs:List Int) (ws:List Int) (h:pre_wB i n zs ws):cond_wB i n zs ws=true:= @decide_eq_true _ (Classical.propDecidable _) h
theorem told_wB_ok (T:List AV) (H:Hp) (e:Ex) (T1:List AV) (H1:Hp) (h:told_wB cond_wB phi_wB T H=some (true,e,T1,H1)):V.Ends Tryz.prog false 0 0 (.loop (lb 23 p_wB)) T H e T1 H1:=by
 unfold told_wB at h
 split at h
 ·rename_i i n mh_ws zs ws h3 h5 h6
  rw [Bool.cond_eq_ite] at h
  split at h
  ·rename_i hlen
   rw [beq_iff_eq] at hlen
   simp only [Option.some.injEq,Prod.mk.injEq,Bool.and_eq_true,decide_eq_true_eq] at h
   obtain ⟨⟨k1,k2⟩,rfl,rfl,rfl⟩:=h
   subst k1
   have kc:= @of_decide_eq_true _ (Classical.propDecidable _) k2
   refine Ends.pre (phi_wB_spec i n zs ws kc).1.ends (fun α B w D ys hr=>slots_rel hlen (fun p hp y hy=> ?_) hr)
   simp only [List.mem_cons,List.not_mem_nil,or_false] at hp
   rcases hp with rfl | rfl | rfl
   ·rw [h3] at hy;exact hy
   ·rw [h5] at hy;exact hy
   ·rw [h6] at hy;exact hy
  ·cases h
 ·cases h
theorem LL_wB_ok {L:LTab} (h:LOk Tryz.prog L):LOk Tryz.prog (LL_wB cond_wB phi_wB L):=h.add2n body_wB told_wB_ok
abbrev p_wA:List Bool:= [false,true,false,true,true,true,true,true,true]
def sh_wA (i:Int) (n:Nat) (zs:List Int):List AV:=slots 62 [(3, .ptr 0 0),(5, .ptr 1 0),(6, .val (.int .i64 i))]
def hp_wA (i:Int) (n:Nat) (zs:List Int):Hp:= [.row (.cells [.sl false 5 2 0 n]) 71 .live, .row (.cells [.val (.pointer none), .val (.slice none 0 0)]) 80 .live, .row (.ints .u8 zs) 5 .live]
theorem body_wA:subC Tryz.prog 23 p_wA=some (.loop (lb 23 p_wA)):=by kernel_rfl
theorem code_wA:subC Tryz.prog 23 (false :: p_wA)=some (lb 23 p_wA):=by kernel_rfl
theorem round_wA (i:Int) (n:Nat) (zs:List Int):roundA Tryz.prog EL0 23 [3,5,6] (lb 23 p_wA) (false :: p_wA) (sh_wA i n zs) (hp_wA i n zs)=
  (bif decide ((0:Int)≤i) then (bif decide ((0:Int)≤i)&&decide (i < (↑n:Int)) then (bif decide ((0:Nat)+i.toNat*(1:Nat) < zs.length) then (bif inR IntKind.i64 (i - (1:Int)) then some (.normal,slots 62 [(3,(.ptr 0 0)),(5,(.ptr 1 0)),(6,(.val (.int .i64 (i - (1:Int)))))], [(.row (.cells [(.sl false 5 2 0 n)]) 71 .live),(.row (.cells [(.ptr 1 0),(.sl false 5 3 0 1)]) 80 .live),(.row (.ints .u8 zs) 5 .live),(.row (.ints .u8 ([zs.getD ((0:Nat)+i.toNat*(1:Nat)) (0:Int)])) 5 .live)]) else none) else none) else none) else some ((.exit 7),slots 62 [(3,(.ptr 0 0)),(5,(.ptr 1 0)),(6,(.val (.int .i64 i)))], [(.row (.cells [(.sl false 5 2 0 n)]) 71 .live),(.row (.cells [(.val (.pointer .none)),(.val (.slice .none 0 0))]) 80 .live),(.row (.ints .u8 zs) 5 .live)])):=by kernel_rfl
theorem step_wA {i:Int} {n:Nat} {zs:List Int} {e:Ex} {T:List AV} {H:Hp} (h:roundA Tryz.prog EL0 23 [3,5,6] (lb 23 p_wA) (false :: p_wA) (sh_wA i n zs) (hp_wA i n zs)=some (e,T,H)):V.Ends Tryz.prog false 0 0 (lb 23 p_wA) (sh_wA i n zs) (hp_wA i n zs) e T H:=
 round_ends (meets_none _) loops_none mixed code_wA h
def pre_wA (i:Int) (n:Nat) (zs:List Int):Prop:=i=(n:Int) - 1∧0 < n∧n≤zs.length∧zs.length≤1000000000000
def post_wA (i:Int) (n:Nat) (zs:List Int) (r:Int×List Int):Prop:=r.2=(zs.take n).reverse
theorem loop_wA (i:Int) (n:Nat) (zs:List Int) (h:pre_wA i n zs):∃ r:Int×List Int,LoopTo Tryz.prog (lb 23 p_wA) (sh_wA i n zs) (hp_wA i n zs) (.exit 7) (sh_wB r.1 n zs r.2) (hp_wB r.1 n zs r.2)∧post_wA i n zs r:=by
 obtain ⟨rfl,h1,h2,h3⟩:=h
 cases n with
 | zero=>omega
 | succ k=>
  have hr:=round_wA (((k+1:Nat):Int) - 1) (k+1) zs
  have e1:(((k+1:Nat):Int) - 1)=(k:Int):=by omega
  rw [e1,dT (show (0:Int)≤(k:Int) by omega),dT (show (k:Int) < ((k+1:Nat):Int) by omega),Int.toNat_natCast,Nat.mul_one,Nat.zero_add,dT (show k < zs.length by omega),i64T (z:=(k:Int) - 1) (by omega)] at hr
  rw [e1]
  have:=wB_go (k+1) zs h2 h3 k [zs.getD k 0] (by omega) (by show 1+k≤_;omega)
  refine ⟨(-1, [zs.getD k 0] ++ (zs.take k).reverse), .more (step_wA hr) this, ?_⟩
  show [zs.getD k 0] ++ (zs.take k).reverse=_
  rw [rev_take zs k (by omega)]
  rfl
def told_wA (κ:Int→Nat→List Int→Bool) (φ:Int→Nat→List Int→Int×List Int) (T:List AV) (H:Hp):Option (Bool×Ex×List AV×Hp):=
 match lget T 3,lget T 5,lget T 6,H with
 | .ptr 0 0, .ptr 1 0, .val (.int .i64 i), [.row (.cells [.sl false 5 2 0 n]) 71 .live, .row (.cells [.val (.pointer none), .val (.slice none 0 0)]) 80 .live, .row (.ints .u8 zs) 5 .live]=>bif T.length==62 then some (κ i n zs, .exit 7,sh_wB ((φ i n zs).1) n zs ((φ i n zs).2),hp_wB ((φ i n zs).1) n zs ((φ i n zs).2)) else none
 | _,_,_,_=>none
abbrev KT_wA:Type:=Int→Nat→List Int→Bool
abbrev FT_wA:Type:=Int→Nat→List Int→Int×List Int
def LL_wA (κ:KT_wA) (φ:FT_wA) (L:LTab):LTab:=addLn 0 23 p_wA [3,5,6] (told_wA κ φ) L
def phi_wA (i:Int) (n:Nat) (zs:List Int):Int×List Int:=Classical.epsilon fun ρ=>LoopTo Tryz.prog (lb 23 p_wA) (sh_wA i n zs) (hp_wA i n zs) (.exit 7) (sh_wB (ρ.1) n zs (ρ.2)) (hp_wB (ρ.1) n zs (ρ.2))∧post_wA i n zs ρ
theorem phi_wA_spec (i:Int) (n:Nat) (zs:List Int) (h:pre_wA i n zs):LoopTo Tryz.prog (lb 23 p_wA) (sh_wA i n zs) (hp_wA i n zs) (.exit 7) (sh_wB ((phi_wA i n zs).1) n zs ((phi_wA i n zs).2)) (hp_wB ((phi_wA i n zs).1) n zs ((phi_wA i n zs).2))∧post_wA i n zs (phi_wA i n zs):=Classical.epsilon_spec (loop_wA i n zs h)
def cond_wA (i:Int) (n:Nat) (zs:List Int):Bool:= @decide (pre_wA i n zs) (Classical.propDecidable _)
theorem cond_wA_eq (i:Int) (n:Nat) (zs:List Int) (h:pre_wA i n zs):cond_wA i n zs=true:= @decide_eq_true _ (Classical.propDecidable _) h
theorem told_wA_ok (T:List AV) (H:Hp) (e:Ex) (T1:List AV) (H1:Hp) (h:told_wA cond_wA phi_wA T H=some (true,e,T1,H1)):V.Ends Tryz.prog false 0 0 (.loop (lb 23 p_wA)) T H e T1 H1:=by
 unfold told_wA at h
 split at h
 ·rename_i i n zs h3 h5 h6
  rw [Bool.cond_eq_ite] at h
  split at h
  ·rename_i hlen
   rw [beq_iff_eq] at hlen
   simp only [Option.some.injEq,Prod.mk.injEq,Bool.and_eq_true,decide_eq_true_eq] at h
   obtain ⟨k1,rfl,rfl,rfl⟩:=h
   have kc:= @of_decide_eq_true _ (Classical.propDecidable _) k1
   refine Ends.pre (phi_wA_spec i n zs kc).1.ends (fun α B w D ys hr=>slots_rel hlen (fun p hp y hy=> ?_) hr)
   simp only [List.mem_cons,List.not_mem_nil,or_false] at hp
   rcases hp with rfl | rfl | rfl
   ·rw [h3] at hy;exact hy
   ·rw [h5] at hy;exact hy
   ·rw [h6] at hy;exact hy
  ·cases h
 ·cases h
theorem LL_wA_ok {L:LTab} (h:LOk Tryz.prog L):LOk Tryz.prog (LL_wA cond_wA phi_wA L):=h.add2n body_wA told_wA_ok
def CPrt (S:Sg):FuncId→List AV→Option (Bool×AV):=addC 31 (tLoad S) noC
theorem print_f (S:Sg) (κ1:KT_ck) (φ1:FT_ck) (κ2:KT_tz) (φ2:FT_tz) (κ3:KT_wA) (φ3:FT_wA) (s:ByteArray):letI z:=(φ1 false s (S.len (S.vs s)) (S.row (S.vs s)));letI n:=(φ2 false s z.length z);letI w:=(φ3 (((n:Nat):Int) - 1) n z);
  (callA Tryz.prog ⟨CPrt S,fun _=>false,LL_ck κ1 φ1 (LL_tz κ2 φ2 (LL_wA κ3 φ3 noL))⟩ 10 10 23 [.agg [.val (.bool false), .val (.string s)]]=(bif S.ok s then (bif κ1 false s (S.len (S.vs s)) (S.row (S.vs s)) rcP then (bif κ2 false s z.length z then (bif decide (((n:Nat):Int)=0) then some (.val (.string (ByteArray.mk #[(48:UInt8)]))) else (bif inR .i64 (((n:Nat):Int) - 1) then (bif κ3 (((n:Nat):Int) - 1) n z then (bif w.2.length==0 then none else (bif decide ((0:Int) < (w.2.length:Int))&&decide ((w.2.length:Int)≤9223372036854775807)&&decide ((w.2.length:Int).toNat≤w.2.length)&&w.2.all (inR .u8)&&true then some (.val (.string (ofBytes (w.2.take (w.2.length:Int).toNat)))) else none)) else none) else none)) else none) else none) else none)):=by kernel_rfl
theorem print_t (S:Sg) (κ1:KT_ck) (φ1:FT_ck) (κ2:KT_tz) (φ2:FT_tz) (κ3:KT_wB) (φ3:FT_wB) (s:ByteArray):letI z:=(φ1 true s (S.len (S.vs s)) (S.row (S.vs s)));letI n:=(φ2 true s z.length z);letI w:=(φ3 (((n:Nat):Int) - 1) n z [(45:Int)]);
  (callA Tryz.prog ⟨CPrt S,fun _=>false,LL_ck κ1 φ1 (LL_tz κ2 φ2 (LL_wB κ3 φ3 noL))⟩ 10 10 23 [.agg [.val (.bool true), .val (.string s)]]=(bif S.ok s then (bif κ1 true s (S.len (S.vs s)) (S.row (S.vs s)) rcP then (bif κ2 true s z.length z then (bif decide (((n:Nat):Int)=0) then some (.val (.string (ByteArray.mk #[(48:UInt8)]))) else (bif inR .i64 (((n:Nat):Int) - 1) then (bif κ3 (((n:Nat):Int) - 1) n z [(45:Int)] then (bif w.2.length==0 then none else (bif decide ((0:Int) < (w.2.length:Int))&&decide ((w.2.length:Int)≤9223372036854775807)&&decide ((w.2.length:Int).toNat≤w.2.length)&&w.2.all (inR .u8)&&true then some (.val (.string (ofBytes (w.2.take (w.2.length:Int).toNat)))) else none)) else none) else none)) else none) else none) else none)):=by kernel_rfl
def tLoad0:List AV→Option (Bool×AV):=fun args=>match args with | [.val (.string s)]=>some (okt s&&decide (vS s=0), .lst false 58 0 (lim [])) | _=>none
def CPr0:FuncId→List AV→Option (Bool×AV):=addC 31 tLoad0 noC
theorem print_0 (b:Bool) (s:ByteArray):callA Tryz.prog ⟨CPr0,fun _=>false,noL⟩ 10 10 23 [.agg [.val (.bool b), .val (.string s)]]=(bif okt s&&decide (vS s=(0:Nat)) then some (.val (.string (ByteArray.mk #[(48:UInt8)]))) else none):=by kernel_rfl
def tP0:List AV→Option (Bool×AV):=fun args=>match args with | [.agg [.val (.bool b), .val (.string s)]]=>some (okt s&&decide (vS s=0), .val (.string ⟨#[48]⟩)) | _=>none
def tPt (c:Bool) (w0:List Int):List AV→Option (Bool×AV):=fun args=>match args with | [.agg [.val (.bool b), .val (.string s)]]=>some (okt s&&(b==c)&& !decide (vS s=0), .val (.string (ofBytes (w0 ++ (dp (dl (vS s)) (vS s)).reverse)))) | _=>none
theorem eLoad0:Entry Tryz.prog 31 tLoad0:=entry_less eLoad fun args r h=>by
 unfold tLoad0 at h
 split at h
 ·rename_i s
  simp only [Option.some.injEq,Prod.mk.injEq,Bool.and_eq_true,decide_eq_true_eq] at h
  obtain ⟨⟨h1,h2⟩,rfl⟩:=h
  have h1:s.size≤1000000:=of_decide_eq_true h1
  have e:sg0.lmb (sg0.vs s)= .lst false 58 0 (lim []):=by
   show AV.lst false 58 (toL (vS s)).length (lim (toL (vS s)))=_
   rw [h2,toL_zero];rfl
  show some (sg0.ok s,sg0.lmb (sg0.vs s))=_
  rw [e]
  refine congrArg some (Prod.ext ?_ rfl)
  exact decide_eq_true (show s.size≤8796093022208 by omega)
 ·cases h
theorem eP0:Entry Tryz.prog 23 tP0:=by
 refine entry_of (E:= ⟨CPr0,fun _=>false,noL⟩) (u:=10) (d:=10) ((meets_none _).add eLoad0) loops_none mixed (by kernel_rfl) (fun args r h=> ?_)
 unfold tP0 at h
 split at h
 ·rename_i b s
  simp only [Option.some.injEq,Prod.mk.injEq] at h
  obtain ⟨h1,rfl⟩:=h
  rw [print_0,h1]
  rfl
 ·cases h
theorem CPrt_ok:Meets Tryz.prog (CPrt sg0):=(meets_none _).add eLoad
theorem trim_dp {n j r:Nat} (h0:n≠0) (hj:n < 10 ^ j) (h1:r≤j) (h2:∀ i,r≤i→i < j→(dp j n).getD i 0=48) (h3:r=0∨(dp j n).getD (r - 1) 0≠48):r=dl n∧(dp j n).take r=dp (dl n) n:=by
 have hl:=dl_le hj
 have hp:=dl_pos h0
 have ht:=dp_top h0
 rw [dp_get _ _ _ (by omega)] at ht
 have hr:r=dl n:=by
  rcases Nat.lt_trichotomy r (dl n) with h | h | h
  ·exfalso
   have:=h2 (dl n - 1) (by omega) (by omega)
   rw [dp_get _ _ _ (by omega)] at this
   exact ht this
  ·exact h
  ·exfalso
   rcases h3 with h3 | h3
   ·omega
   ·apply h3
    rw [dp_get _ _ _ (by omega),Nat.div_eq_of_lt (Nat.lt_of_lt_of_le (dl_lt n) (Nat.pow_le_pow_right (by decide) (by omega)))]
    rfl
 refine ⟨hr, ?_⟩
 rw [dp_more hj,hr]
 exact List.take_left' (dp_len _ _)
theorem all_u8 {l:List Int} (h:∀ z ∈ l,∃ c:Nat,c < 256∧z=(c:Int)):l.all (inR .u8)=true:=by
 rw [List.all_eq_true]
 intro z hz
 obtain ⟨c,hc,rfl⟩:=h z hz
 unfold inR
 rw [Bool.and_eq_true,decide_eq_true_eq,decide_eq_true_eq]
 exact ⟨by show (0:Int)≤_;omega,by show _≤(255:Int);omega⟩
theorem pr_mid (b:Bool) (s:ByteArray) (h1:s.size≤1000000) (h0:vS s≠0):cond_ck b s (toL (vS s)).length (lim (toL (vS s))) rcP=true∧
  ∃ j,j≤1000000000∧phi_ck b s (toL (vS s)).length (lim (toL (vS s)))=dp j (vS s)∧cond_tz b s j (dp j (vS s))=true∧phi_tz b s j (dp j (vS s))=dl (vS s)∧(dp j (vS s)).take (dl (vS s))=dp (dl (vS s)) (vS s)∧dl (vS s)≤j:=by
 have hp:pre_ck (toL (vS s)).length (lim (toL (vS s))) rcP:= ⟨rfl,vS s,s.size,h0,vs_pow s,by omega,rfl,rfl⟩
 refine ⟨cond_ck_eq b s hp, ?_⟩
 obtain ⟨n,j,e1,e2,hj,hn,hz,_⟩:=phi_ck_spec b s hp
 have en:n=vS s:=by
  have h:=num_toL n
  rw [← e1,← e2,num_toL] at h
  exact h.symm
 subst en
 have hq:pre_tz b s j (dp j (vS s)):= ⟨by rw [dp_len];exact Nat.le_refl _,by rw [dp_len];omega⟩
 obtain ⟨_,k1,k2,k3⟩:=phi_tz_spec b s j (dp j (vS s)) hq
 obtain ⟨t1,t2⟩:=trim_dp h0 hn k1 k2 k3
 rw [t1] at t2
 exact ⟨j,hj,hz,cond_tz_eq _ _ _ _ hq,t1,t2,dl_le hn⟩
theorem ePt:Entry Tryz.prog 23 (tPt true [45]):=by
 refine entry_of (E:= ⟨CPrt sg0,fun _=>false,LL_ck cond_ck phi_ck (LL_tz cond_tz phi_tz (LL_wB cond_wB phi_wB noL))⟩) (u:=10) (d:=10) CPrt_ok (LL_ck_ok (LL_tz_ok (LL_wB_ok LOk.none))).ok mixed (by kernel_rfl) (fun args r h=> ?_)
 unfold tPt at h
 split at h
 ·rename_i b s
  simp only [Option.some.injEq,Prod.mk.injEq,Bool.and_eq_true,beq_iff_eq,Bool.not_eq_true',decide_eq_false_iff_not] at h
  obtain ⟨⟨⟨h1,rfl⟩,h0⟩,rfl⟩:=h
  have h1:s.size≤1000000:=of_decide_eq_true h1
  obtain ⟨c1,j,hj,e1,c2,e2,e3,hl⟩:=pr_mid true s h1 h0
  have hp:=dl_pos h0
  have hv:sg0.vs s=vS s:=rfl
  have hsl:sg0.len (sg0.vs s)=(toL (vS s)).length:=rfl
  have hsr:sg0.row (sg0.vs s)=lim (toL (vS s)):=rfl
  have hok:sg0.ok s=true:=decide_eq_true (show s.size≤8796093022208 by omega)
  have hq:pre_wB ((dl (vS s):Int) - 1) (dl (vS s)) (dp j (vS s)) [45]:= ⟨rfl,by rw [dp_len];exact hl,by rw [dp_len];omega,by show 1≤_;omega⟩
  have hw:=(phi_wB_spec _ _ _ _ hq).2
  unfold post_wB at hw
  rw [e3] at hw
  have hcall:=print_t sg0 cond_ck phi_ck cond_tz phi_tz cond_wB phi_wB s
  simp only [hsl,hsr,e1,dp_len,e2,hw] at hcall
  rw [hcall,hok,c1,c2,cond_wB_eq _ _ _ _ hq,dF (show ¬ ((dl (vS s):Nat):Int)=0 by omega),i64T (z:=((dl (vS s):Nat):Int) - 1) (by omega),Int.toNat_natCast,List.take_length]
  have hlen:([45] ++ (dp (dl (vS s)) (vS s)).reverse).length=dl (vS s)+1:=by rw [List.length_append,List.length_reverse,dp_len];show 1+_=_;omega
  rw [hlen,dT (show (0:Int) < ((dl (vS s)+1:Nat):Int) by omega),dT (show ((dl (vS s)+1:Nat):Int)≤9223372036854775807 by omega),dT (Nat.le_refl _),all_u8 (fun z hz=>by
   rcases List.mem_append.1 hz with h | h
   ·rw [List.mem_singleton] at h;exact ⟨45,by decide,h⟩
   ·exact dp_u8 _ _ z h)]
  rfl
 ·cases h
theorem ePf:Entry Tryz.prog 23 (tPt false []):=by
 refine entry_of (E:= ⟨CPrt sg0,fun _=>false,LL_ck cond_ck phi_ck (LL_tz cond_tz phi_tz (LL_wA cond_wA phi_wA noL))⟩) (u:=10) (d:=10) CPrt_ok (LL_ck_ok (LL_tz_ok (LL_wA_ok LOk.none))).ok mixed (by kernel_rfl) (fun args r h=> ?_)
 unfold tPt at h
 split at h
 ·rename_i b s
  simp only [Option.some.injEq,Prod.mk.injEq,Bool.and_eq_true,beq_iff_eq,Bool.not_eq_true',decide_eq_false_iff_not] at h
  obtain ⟨⟨⟨h1,rfl⟩,h0⟩,rfl⟩:=h
  have h1:s.size≤1000000:=of_decide_eq_true h1
  obtain ⟨c1,j,hj,e1,c2,e2,e3,hl⟩:=pr_mid false s h1 h0
  have hp:=dl_pos h0
  have hsl:sg0.len (sg0.vs s)=(toL (vS s)).length:=rfl
  have hsr:sg0.row (sg0.vs s)=lim (toL (vS s)):=rfl
  have hok:sg0.ok s=true:=decide_eq_true (show s.size≤8796093022208 by omega)
  have hq:pre_wA ((dl (vS s):Int) - 1) (dl (vS s)) (dp j (vS s)):= ⟨rfl,hp,by rw [dp_len];exact hl,by rw [dp_len];omega⟩
  have hw:=(phi_wA_spec _ _ _ hq).2
  unfold post_wA at hw
  rw [e3] at hw
  have hcall:=print_f sg0 cond_ck phi_ck cond_tz phi_tz cond_wA phi_wA s
  simp only [hsl,hsr,e1,dp_len,e2,hw] at hcall
  rw [hcall,hok,c1,c2,cond_wA_eq _ _ _ hq,dF (show ¬ ((dl (vS s):Nat):Int)=0 by omega),i64T (z:=((dl (vS s):Nat):Int) - 1) (by omega),Int.toNat_natCast,List.take_length,List.length_reverse,dp_len,dT (show (0:Int) < ((dl (vS s):Nat):Int) by omega),dT (show ((dl (vS s):Nat):Int)≤9223372036854775807 by omega),dT (Nat.le_refl _),all_u8 (dp_u8 _ _),show (dl (vS s)==0)=false by rw [beq_eq_false_iff_ne];omega]
  rfl
 ·cases h
theorem ePrint:Entry Tryz.prog 23 (tPrt sg0 txt):=by
 intro args r h
 have h':=h
 unfold tPrt at h'
 split at h'
 ·rename_i b s
  simp only [Option.some.injEq,Prod.mk.injEq] at h'
  obtain ⟨h1,rfl⟩:=h'
  have hv:sg0.val b s=if b=true then -(vS s:Int) else (vS s:Int):=rfl
  by_cases h0:vS s=0
  ·refine eP0 _ _ ?_
   have e:txt (sg0.val b s)= ⟨#[48]⟩:=by
    unfold txt
    rw [if_pos (by rw [hv,h0];cases b <;> rfl)]
   show some (okt s&&decide (vS s=0),_)=_
   rw [h1,dT h0,e];rfl
  ·cases b with
   | true=>
    refine ePt _ _ ?_
    have e:txt (sg0.val true s)=ofBytes ([45] ++ (dp (dl (vS s)) (vS s)).reverse):=by
     have h2:sg0.val true s= -(vS s:Int):=rfl
     unfold txt
     rw [h2,if_neg (by omega),if_pos (show -(vS s:Int) < 0 by omega),Int.natAbs_neg,Int.natAbs_natCast]
    show some (okt s&&(true==true)&& !decide (vS s=0),_)=_
    rw [h1,dF h0,e];rfl
   | false=>
    refine ePf _ _ ?_
    have e:txt (sg0.val false s)=ofBytes ([] ++ (dp (dl (vS s)) (vS s)).reverse):=by
     have h2:sg0.val false s=(vS s:Int):=rfl
     unfold txt
     rw [h2,if_neg (by omega),if_neg (show ¬ (vS s:Int) < 0 by omega),Int.natAbs_natCast]
    show some (okt s&&(false==false)&& !decide (vS s=0),_)=_
    rw [h1,dF h0,e];rfl
 ·cases h'
end
end Go.Proofs.YtibaendebbicjaaGreat.L
namespace Go.Proofs.YtibaendebbicjaaGreat.L
open Go Go.V Go.RowKit Go.Proofs.YtibaendebbicjaaGreat.Sp
open Go.Proofs (Tryz.prog)
noncomputable section
abbrev p_dvA:List Bool:= [false,true,false,true,false,true,false,false,true,false,true,true,true,true,true]
def sh_dvA (bs:List Int) (a:Int) (r:Int) (i:Int) (b:Bool) (s:ByteArray):List AV:=slots 95 [(1, .ptr 0 0),(3, .val (.slice none 0 0)),(4, .sl false 5 1 0 bs.length),(5, .val (.int .i64 a)),(6, .val (.int .i64 r)),(7, .val (.int .i64 i))]
def hp_dvA (bs:List Int) (a:Int) (r:Int) (i:Int) (b:Bool) (s:ByteArray):Hp:= [.row (.cells [.val (.bool b), .val (.string s)]) 38 .live, .row (.ints .u8 bs) 5 .live]
theorem body_dvA:subC Tryz.prog 25 p_dvA=some (.loop (lb 25 p_dvA)):=by kernel_rfl
theorem code_dvA:subC Tryz.prog 25 (false :: p_dvA)=some (lb 25 p_dvA):=by kernel_rfl
theorem round_dvA (bs:List Int) (a:Int) (r:Int) (i:Int) (b:Bool) (s:ByteArray):letI q_1:=(bitI BinOp.or IntKind.i64 (r*(256:Int)) (bs.getD ((0:Nat)+i.toNat*(1:Nat)) (0:Int)));
  (roundA Tryz.prog EL0 25 [1,3,4,5,6,7] (lb 25 p_dvA) (false :: p_dvA) (sh_dvA bs a r i b s) (hp_dvA bs a r i b s)=(bif decide (i < (↑bs.length:Int)) then (bif inR IntKind.i64 (r*(256:Int)) then (bif decide ((0:Int)≤i)&&decide (i < (↑bs.length:Int)) then (bif decide ((0:Nat)+i.toNat*(1:Nat) < bs.length) then (bif inR IntKind.i64 (bs.getD ((0:Nat)+i.toNat*(1:Nat)) (0:Int)) then (bif inR IntKind.i64 (q_1.tdiv (10:Int)) then (bif decide ((0:Int)≤i)&&decide (i < (↑bs.length:Int)) then (bif decide ((0:Nat)+i.toNat*(1:Nat) < bs.length) then (bif inR IntKind.i64 (i+(1:Int)) then some (.normal,slots 95 [(1,(.ptr 0 0)),(3,(.val (.slice .none 0 0))),(4,(.sl false 5 1 0 bs.length)),(5,(.val (.int .i64 a))),(6,(.val (.int .i64 (q_1.tmod (10:Int))))),(7,(.val (.int .i64 (i+(1:Int)))))], [(.row (.cells [(.val (.bool b)),(.val (.string s))]) 38 .live),(.row (.ints .u8 (bs.set ((0:Nat)+i.toNat*(1:Nat)) (IntKind.u8.wrap (q_1.tdiv (10:Int))))) 5 .live)]) else none) else none) else none) else none) else none) else none) else none) else none) else some ((.exit 2),slots 95 [(1,(.ptr 0 0)),(3,(.val (.slice .none 0 0))),(4,(.sl false 5 1 0 bs.length)),(5,(.val (.int .i64 a))),(6,(.val (.int .i64 r))),(7,(.val (.int .i64 i)))], [(.row (.cells [(.val (.bool b)),(.val (.string s))]) 38 .live),(.row (.ints .u8 bs) 5 .live)]))):=by kernel_rfl
theorem step_dvA {bs:List Int} {a:Int} {r:Int} {i:Int} {b:Bool} {s:ByteArray} {e:Ex} {T:List AV} {H:Hp} (h:roundA Tryz.prog EL0 25 [1,3,4,5,6,7] (lb 25 p_dvA) (false :: p_dvA) (sh_dvA bs a r i b s) (hp_dvA bs a r i b s)=some (e,T,H)):V.Ends Tryz.prog false 0 0 (lb 25 p_dvA) (sh_dvA bs a r i b s) (hp_dvA bs a r i b s) e T H:=
 round_ends (meets_none _) loops_none mixed code_dvA h
def pre_dvA (bs:List Int) (a r i:Int) (b:Bool) (s:ByteArray):Prop:=okb bs∧r=0∧i=a∧∃ m:Nat,a=m∧m≤bs.length∧(∀ j,j < m→bs.getD j 0=0)∧bs.length≤1000000000000
def post_dvA (bs:List Int) (a r i:Int) (b:Bool) (s:ByteArray) (ρ:Int×Int×List Int):Prop:=okb ρ.2.2∧ρ.2.2.length=bs.length∧vI ρ.2.2=vI bs / 10∧ρ.1=((vI bs % 10:Nat):Int)∧∀ m:Nat,a=m→∀ j,j < m→ρ.2.2.getD j 0=0
theorem dvA_go (os:List Int) (a:Int) (b:Bool) (s:ByteArray) (hos:okb os) (hl:os.length≤1000000000000) (d:Nat):∀ (ps:List Int) (r:Nat),ps.length+d=os.length→okb ps→r < 10→vI (os.take ps.length)=10*vI ps+r→
  ∃ (qs:List Int) (ρ:Int×Int×List Int),LoopTo Tryz.prog (lb 25 p_dvA) (sh_dvA (ps ++ os.drop ps.length) a r ps.length b s) (hp_dvA (ps ++ os.drop ps.length) a r ps.length b s) (.exit 2) (sh_dvA ρ.2.2 a ρ.1 ρ.2.1 b s) (hp_dvA ρ.2.2 a ρ.1 ρ.2.1 b s)∧ρ.2.2=ps ++ qs∧okb ρ.2.2∧ρ.2.2.length=os.length∧∃ r':Nat,r' < 10∧ρ.1=r'∧vI os=10*vI ρ.2.2+r':=by
 induction d with
 | zero=>
  intro ps r hd hp hr hv
  have e:ps.length=os.length:=by omega
  rw [e,List.take_length] at hv
  refine ⟨[],((r:Int),((ps.length:Nat):Int),ps), .last (step_dvA ?_) (by intro h;cases h),(List.append_nil ps).symm,hp,e,r,hr,rfl,hv⟩
  rw [e,List.drop_length,List.append_nil,round_dvA,dF (show ¬ ((os.length:Nat):Int) < (ps.length:Int) by omega)]
  rfl
 | succ d ih=>
  intro ps r hd hp hr hv
  have hil:ps.length < os.length:=by omega
  obtain ⟨c,hc,he,_⟩:=okb_get hos hil
  have hdrop:os.drop ps.length=(c:Int) :: os.drop (ps.length+1):=by rw [List.drop_eq_getElem_cons hil,he]
  have hlen:(ps ++ (c:Int) :: os.drop (ps.length+1)).length=os.length:=by rw [List.length_append,List.length_cons,List.length_drop];omega
  have hr0:=round_dvA (ps ++ (c:Int) :: os.drop (ps.length+1)) a r ps.length b s
  have hq:((r*256+c:Nat):Int).tdiv 10=(((r*256+c) / 10:Nat):Int):=rfl
  have hm:((r*256+c:Nat):Int).tmod 10=(((r*256+c) % 10:Nat):Int):=rfl
  have hu:IntKind.u8.wrap ((((r*256+c) / 10:Nat):Int))=(((r*256+c) / 10:Nat):Int):=by rw [IntKind.wrap_u8];omega
  rw [hlen,Int.toNat_natCast,Nat.mul_one,Nat.zero_add,get_mid,or_i64 r c (by omega) hc,hq,hm,hu,set_mid,dT (show ((ps.length:Nat):Int) < (os.length:Int) by omega),i64T (z:=(r:Int)*256) (by omega),dT (show (0:Int)≤((ps.length:Nat):Int) by omega),dT hil,i64T (z:=(c:Int)) (by omega),i64T (z:=(((r*256+c) / 10:Nat):Int)) (by omega),i64T (z:=((ps.length:Nat):Int)+1) (by omega)] at hr0
  have h1:vI (os.take (ps ++ [(((r*256+c) / 10:Nat):Int)]).length)=10*vI (ps ++ [(((r*256+c) / 10:Nat):Int)])+(r*256+c) % 10:=by
   rw [List.length_append,show [(((r*256+c) / 10:Nat):Int)].length=1 from rfl,List.take_succ_eq_append_getElem hil,he,vI_snoc,vI_snoc,hv]
   omega
  obtain ⟨qs,ρ,g1,g2,g3⟩:=ih (ps ++ [(((r*256+c) / 10:Nat):Int)]) ((r*256+c) % 10) (by rw [List.length_append];show ps.length+1+d=_;omega) (okb_snoc hp (by omega)) (by omega) h1
  refine ⟨(((r*256+c) / 10:Nat):Int) :: qs,ρ, ?_,by rw [g2,List.append_assoc];rfl,g3⟩
  rw [hdrop]
  refine .more (step_dvA (hr0.trans ?_)) g1
  unfold sh_dvA hp_dvA
  rw [show (ps ++ [(((r*256+c) / 10:Nat):Int)]).length=ps.length+1 by rw [List.length_append];rfl,List.append_assoc,show [(((r*256+c) / 10:Nat):Int)] ++ os.drop (ps.length+1)=(((r*256+c) / 10:Nat):Int) :: os.drop (ps.length+1) from rfl,show (ps ++ (((r*256+c) / 10:Nat):Int) :: os.drop (ps.length+1)).length=os.length by rw [List.length_append,List.length_cons,List.length_drop];omega]
  rfl
theorem loop_dvA (bs:List Int) (a r i:Int) (b:Bool) (s:ByteArray) (h:pre_dvA bs a r i b s):∃ ρ:Int×Int×List Int,LoopTo Tryz.prog (lb 25 p_dvA) (sh_dvA bs a r i b s) (hp_dvA bs a r i b s) (.exit 2) (sh_dvA ρ.2.2 a ρ.1 ρ.2.1 b s) (hp_dvA ρ.2.2 a ρ.1 ρ.2.1 b s)∧post_dvA bs a r i b s ρ:=by
 obtain ⟨h1,rfl,rfl,m,rfl,hm,h0,hl⟩:=h
 have hz:vI (bs.take m)=0∧okb (bs.take m):=by
  refine ⟨?_,fun z hz=>h1 z (List.mem_of_mem_take hz)⟩
  clear h1 hl
  induction m with
  | zero=>rfl
  | succ m ih=>
   have:=h0 m (by omega)
   rw [List.getD_eq_getElem?_getD,List.getElem?_eq_getElem (show m < bs.length by omega),Option.getD_some] at this
   rw [List.take_succ_eq_append_getElem (by omega),this,show (0:Int)=((0:Nat):Int) from rfl,vI_snoc,ih (by omega) (fun j hj=>h0 j (by omega))]
 have hlen:(bs.take m).length=m:=by rw [List.length_take];omega
 obtain ⟨qs,ρ,g1,g2,g3,g4,r',g5,g6,g7⟩:=dvA_go bs (m:Int) b s h1 hl (bs.length - m) (bs.take m) 0 (by rw [hlen];omega) hz.2 (by decide) (by rw [hlen,hz.1])
 rw [hlen,List.take_append_drop] at g1
 refine ⟨ρ,g1,g3,g4,by omega,by rw [g6];omega,fun m' e j hj=> ?_⟩
 have e:m'=m:=by omega
 subst e
 rw [g2,List.getD_eq_getElem?_getD,List.getElem?_append_left (by rw [hlen];exact hj),List.getElem?_take,if_pos hj,← List.getD_eq_getElem?_getD]
 exact h0 j hj
def told_dvA (κ:List Int→Int→Int→Int→Bool→ByteArray→Bool) (φ:List Int→Int→Int→Int→Bool→ByteArray→Int×Int×List Int) (T:List AV) (H:Hp):Option (Bool×Ex×List AV×Hp):=
 match lget T 1,lget T 3,lget T 4,lget T 5,lget T 6,lget T 7,H with
 | .ptr 0 0, .val (.slice none 0 0), .sl false 5 1 0 m_bs, .val (.int .i64 a), .val (.int .i64 r), .val (.int .i64 i), [.row (.cells [.val (.bool b), .val (.string s)]) 38 .live, .row (.ints .u8 bs) 5 .live]=>bif T.length==95 then some (decide (m_bs=bs.length)&&κ bs a r i b s, .exit 2,sh_dvA ((φ bs a r i b s).2.2) a ((φ bs a r i b s).1) ((φ bs a r i b s).2.1) b s,hp_dvA ((φ bs a r i b s).2.2) a ((φ bs a r i b s).1) ((φ bs a r i b s).2.1) b s) else none
 | _,_,_,_,_,_,_=>none
abbrev KT_dvA:Type:=List Int→Int→Int→Int→Bool→ByteArray→Bool
abbrev FT_dvA:Type:=List Int→Int→Int→Int→Bool→ByteArray→Int×Int×List Int
def LL_dvA (κ:KT_dvA) (φ:FT_dvA) (L:LTab):LTab:=addLn 0 25 p_dvA [1,3,4,5,6,7] (told_dvA κ φ) L
def phi_dvA (bs:List Int) (a:Int) (r:Int) (i:Int) (b:Bool) (s:ByteArray):Int×Int×List Int:=Classical.epsilon fun ρ=>LoopTo Tryz.prog (lb 25 p_dvA) (sh_dvA bs a r i b s) (hp_dvA bs a r i b s) (.exit 2) (sh_dvA (ρ.2.2) a (ρ.1) (ρ.2.1) b s) (hp_dvA (ρ.2.2) a (ρ.1) (ρ.2.1) b s)∧post_dvA bs a r i b s ρ
theorem phi_dvA_spec (bs:List Int) (a:Int) (r:Int) (i:Int) (b:Bool) (s:ByteArray) (h:pre_dvA bs a r i b s):LoopTo Tryz.prog (lb 25 p_dvA) (sh_dvA bs a r i b s) (hp_dvA bs a r i b s) (.exit 2) (sh_dvA ((phi_dvA bs a r i b s).2.2) a ((phi_dvA bs a r i b s).1) ((phi_dvA bs a r i b s).2.1) b s) (hp_dvA ((phi_dvA bs a r i b s).2.2) a ((phi_dvA bs a r i b s).1) ((phi_dvA bs a r i b s).2.1) b s)∧post_dvA bs a r i b s (phi_dvA bs a r i b s):=Classical.epsilon_spec (loop_dvA bs a r i b s h)
def cond_dvA (bs:List Int) (a:Int) (r:Int) (i:Int) (b:Bool) (s:ByteArray):Bool:= @decide (pre_dvA bs a r i b s) (Classical.propDecidable _)
theorem cond_dvA_eq (bs:List Int) (a:Int) (r:Int) (i:Int) (b:Bool) (s:ByteArray) (h:pre_dvA bs a r i b s):cond_dvA bs a r i b s=true:= @decide_eq_true _ (Classical.propDecidable _) h
theorem told_dvA_ok (T:List AV) (H:Hp) (e:Ex) (T1:List AV) (H1:Hp) (h:told_dvA cond_dvA phi_dvA T H=some (true,e,T1,H1)):V.Ends Tryz.prog false 0 0 (.loop (lb 25 p_dvA)) T H e T1 H1:=by
 unfold told_dvA at h
 split at h
 ·rename_i m_bs a r i b s bs h1 h3 h4 h5 h6 h7
  rw [Bool.cond_eq_ite] at h
  split at h
  ·rename_i hlen
   rw [beq_iff_eq] at hlen
   simp only [Option.some.injEq,Prod.mk.injEq,Bool.and_eq_true,decide_eq_true_eq] at h
   obtain ⟨⟨k1,k2⟩,rfl,rfl,rfl⟩:=h
   have kc:= @of_decide_eq_true _ (Classical.propDecidable _) k2
   refine Ends.pre (phi_dvA_spec bs a r i b s kc).1.ends (fun α B w D ys hr=>slots_rel hlen (fun p hp y hy=> ?_) hr)
   simp only [List.mem_cons,List.not_mem_nil,or_false] at hp
   rcases hp with rfl | rfl | rfl | rfl | rfl | rfl
   ·rw [h1] at hy;exact hy
   ·rw [h3] at hy;exact hy
   ·rw [h4] at hy;rw [← k1];exact hy
   ·rw [h5] at hy;exact hy
   ·rw [h6] at hy;exact hy
   ·rw [h7] at hy;exact hy
  ·cases h
 ·cases h
theorem LL_dvA_ok {L:LTab} (h:LOk Tryz.prog L):LOk Tryz.prog (LL_dvA cond_dvA phi_dvA L):=h.add2n body_dvA told_dvA_ok
abbrev p_dvB:List Bool:= [false,true,false,true,false,true,false,false,true,false,true,true,true,true,true]
def sh_dvB (zs:List Int) (bs:List Int) (a:Int) (r:Int) (i:Int) (b:Bool) (s:ByteArray):List AV:=slots 95 [(1, .ptr 0 0),(3, .sl false 5 1 0 zs.length),(4, .sl false 5 2 0 bs.length),(5, .val (.int .i64 a)),(6, .val (.int .i64 r)),(7, .val (.int .i64 i))]
def hp_dvB (zs:List Int) (bs:List Int) (a:Int) (r:Int) (i:Int) (b:Bool) (s:ByteArray):Hp:= [.row (.cells [.val (.bool b), .val (.string s)]) 38 .live, .row (.ints .u8 zs) 5 .live, .row (.ints .u8 bs) 5 .live]
theorem body_dvB:subC Tryz.prog 25 p_dvB=some (.loop (lb 25 p_dvB)):=by kernel_rfl
theorem code_dvB:subC Tryz.prog 25 (false :: p_dvB)=some (lb 25 p_dvB):=by kernel_rfl
theorem round_dvB (zs:List Int) (bs:List Int) (a:Int) (r:Int) (i:Int) (b:Bool) (s:ByteArray):letI q_1:=(bitI BinOp.or IntKind.i64 (r*(256:Int)) (bs.getD ((0:Nat)+i.toNat*(1:Nat)) (0:Int)));
  (roundA Tryz.prog EL0 25 [1,3,4,5,6,7] (lb 25 p_dvB) (false :: p_dvB) (sh_dvB zs bs a r i b s) (hp_dvB zs bs a r i b s)=(bif decide (i < (↑bs.length:Int)) then (bif inR IntKind.i64 (r*(256:Int)) then (bif decide ((0:Int)≤i)&&decide (i < (↑bs.length:Int)) then (bif decide ((0:Nat)+i.toNat*(1:Nat) < bs.length) then (bif inR IntKind.i64 (bs.getD ((0:Nat)+i.toNat*(1:Nat)) (0:Int)) then (bif inR IntKind.i64 (q_1.tdiv (10:Int)) then (bif decide ((0:Int)≤i)&&decide (i < (↑bs.length:Int)) then (bif decide ((0:Nat)+i.toNat*(1:Nat) < bs.length) then (bif inR IntKind.i64 (i+(1:Int)) then some (.normal,slots 95 [(1,(.ptr 0 0)),(3,(.sl false 5 1 0 zs.length)),(4,(.sl false 5 2 0 bs.length)),(5,(.val (.int .i64 a))),(6,(.val (.int .i64 (q_1.tmod (10:Int))))),(7,(.val (.int .i64 (i+(1:Int)))))], [(.row (.cells [(.val (.bool b)),(.val (.string s))]) 38 .live),(.row (.ints .u8 zs) 5 .live),(.row (.ints .u8 (bs.set ((0:Nat)+i.toNat*(1:Nat)) (IntKind.u8.wrap (q_1.tdiv (10:Int))))) 5 .live)]) else none) else none) else none) else none) else none) else none) else none) else none) else some ((.exit 2),slots 95 [(1,(.ptr 0 0)),(3,(.sl false 5 1 0 zs.length)),(4,(.sl false 5 2 0 bs.length)),(5,(.val (.int .i64 a))),(6,(.val (.int .i64 r))),(7,(.val (.int .i64 i)))], [(.row (.cells [(.val (.bool b)),(.val (.string s))]) 38 .live),(.row (.ints .u8 zs) 5 .live),(.row (.ints .u8 bs) 5 .live)]))):=by kernel_rfl
theorem step_dvB {zs:List Int} {bs:List Int} {a:Int} {r:Int} {i:Int} {b:Bool} {s:ByteArray} {e:Ex} {T:List AV} {H:Hp} (h:roundA Tryz.prog EL0 25 [1,3,4,5,6,7] (lb 25 p_dvB) (false :: p_dvB) (sh_dvB zs bs a r i b s) (hp_dvB zs bs a r i b s)=some (e,T,H)):V.Ends Tryz.prog false 0 0 (lb 25 p_dvB) (sh_dvB zs bs a r i b s) (hp_dvB zs bs a r i b s) e T H:=
 round_ends (meets_none _) loops_none mixed code_dvB h
def pre_dvB (zs:List Int) (bs:List Int) (a r i:Int) (b:Bool) (s:ByteArray):Prop:=okb bs∧r=0∧i=a∧∃ m:Nat,a=m∧m≤bs.length∧(∀ j,j < m→bs.getD j 0=0)∧bs.length≤1000000000000
def post_dvB (zs:List Int) (bs:List Int) (a r i:Int) (b:Bool) (s:ByteArray) (ρ:Int×Int×List Int):Prop:=okb ρ.2.2∧ρ.2.2.length=bs.length∧vI ρ.2.2=vI bs / 10∧ρ.1=((vI bs % 10:Nat):Int)∧∀ m:Nat,a=m→∀ j,j < m→ρ.2.2.getD j 0=0
theorem dvB_go (zs:List Int) (os:List Int) (a:Int) (b:Bool) (s:ByteArray) (hos:okb os) (hl:os.length≤1000000000000) (d:Nat):∀ (ps:List Int) (r:Nat),ps.length+d=os.length→okb ps→r < 10→vI (os.take ps.length)=10*vI ps+r→
  ∃ (qs:List Int) (ρ:Int×Int×List Int),LoopTo Tryz.prog (lb 25 p_dvB) (sh_dvB zs (ps ++ os.drop ps.length) a r ps.length b s) (hp_dvB zs (ps ++ os.drop ps.length) a r ps.length b s) (.exit 2) (sh_dvB zs ρ.2.2 a ρ.1 ρ.2.1 b s) (hp_dvB zs ρ.2.2 a ρ.1 ρ.2.1 b s)∧ρ.2.2=ps ++ qs∧okb ρ.2.2∧ρ.2.2.length=os.length∧∃ r':Nat,r' < 10∧ρ.1=r'∧vI os=10*vI ρ.2.2+r':=by
 induction d with
 | zero=>
  intro ps r hd hp hr hv
  have e:ps.length=os.length:=by omega
  rw [e,List.take_length] at hv
  refine ⟨[],((r:Int),((ps.length:Nat):Int),ps), .last (step_dvB ?_) (by intro h;cases h),(List.append_nil ps).symm,hp,e,r,hr,rfl,hv⟩
  rw [e,List.drop_length,List.append_nil,round_dvB,dF (show ¬ ((os.length:Nat):Int) < (ps.length:Int) by omega)]
  rfl
 | succ d ih=>
  intro ps r hd hp hr hv
  have hil:ps.length < os.length:=by omega
  obtain ⟨c,hc,he,_⟩:=okb_get hos hil
  have hdrop:os.drop ps.length=(c:Int) :: os.drop (ps.length+1):=by rw [List.drop_eq_getElem_cons hil,he]
  have hlen:(ps ++ (c:Int) :: os.drop (ps.length+1)).length=os.length:=by rw [List.length_append,List.length_cons,List.length_drop];omega
  have hr0:=round_dvB zs (ps ++ (c:Int) :: os.drop (ps.length+1)) a r ps.length b s
  have hq:((r*256+c:Nat):Int).tdiv 10=(((r*256+c) / 10:Nat):Int):=rfl
  have hm:((r*256+c:Nat):Int).tmod 10=(((r*256+c) % 10:Nat):Int):=rfl
  have hu:IntKind.u8.wrap ((((r*256+c) / 10:Nat):Int))=(((r*256+c) / 10:Nat):Int):=by rw [IntKind.wrap_u8];omega
  rw [hlen,Int.toNat_natCast,Nat.mul_one,Nat.zero_add,get_mid,or_i64 r c (by omega) hc,hq,hm,hu,set_mid,dT (show ((ps.length:Nat):Int) < (os.length:Int) by omega),i64T (z:=(r:Int)*256) (by omega),dT (show (0:Int)≤((ps.length:Nat):Int) by omega),dT hil,i64T (z:=(c:Int)) (by omega),i64T (z:=(((r*256+c) / 10:Nat):Int)) (by omega),i64T (z:=((ps.length:Nat):Int)+1) (by omega)] at hr0
  have h1:vI (os.take (ps ++ [(((r*256+c) / 10:Nat):Int)]).length)=10*vI (ps ++ [(((r*256+c) / 10:Nat):Int)])+(r*256+c) % 10:=by
   rw [List.length_append,show [(((r*256+c) / 10:Nat):Int)].length=1 from rfl,List.take_succ_eq_append_getElem hil,he,vI_snoc,vI_snoc,hv]
   omega
  obtain ⟨qs,ρ,g1,g2,g3⟩:=ih (ps ++ [(((r*256+c) / 10:Nat):Int)]) ((r*256+c) % 10) (by rw [List.length_append];show ps.length+1+d=_;omega) (okb_snoc hp (by omega)) (by omega) h1
  refine ⟨(((r*256+c) / 10:Nat):Int) :: qs,ρ, ?_,by rw [g2,List.append_assoc];rfl,g3⟩
  rw [hdrop]
  refine .more (step_dvB (hr0.trans ?_)) g1
  unfold sh_dvB hp_dvB
  rw [show (ps ++ [(((r*256+c) / 10:Nat):Int)]).length=ps.length+1 by rw [List.length_append];rfl,List.append_assoc,show [(((r*256+c) / 10:Nat):Int)] ++ os.drop (ps.length+1)=(((r*256+c) / 10:Nat):Int) :: os.drop (ps.length+1) from rfl,show (ps ++ (((r*256+c) / 10:Nat):Int) :: os.drop (ps.length+1)).length=os.length by rw [List.length_append,List.length_cons,List.length_drop];omega]
  rfl
theorem loop_dvB (zs:List Int) (bs:List Int) (a r i:Int) (b:Bool) (s:ByteArray) (h:pre_dvB zs bs a r i b s):∃ ρ:Int×Int×List Int,LoopTo Tryz.prog (lb 25 p_dvB) (sh_dvB zs bs a r i b s) (hp_dvB zs bs a r i b s) (.exit 2) (sh_dvB zs ρ.2.2 a ρ.1 ρ.2.1 b s) (hp_dvB zs ρ.2.2 a ρ.1 ρ.2.1 b s)∧post_dvB zs bs a r i b s ρ:=by
 obtain ⟨h1,rfl,rfl,m,rfl,hm,h0,hl⟩:=h
 have hz:vI (bs.take m)=0∧okb (bs.take m):=by
  refine ⟨?_,fun z hz=>h1 z (List.mem_of_mem_take hz)⟩
  clear h1 hl
  induction m with
  | zero=>rfl
  | succ m ih=>
   have:=h0 m (by omega)
   rw [List.getD_eq_getElem?_getD,List.getElem?_eq_getElem (show m < bs.length by omega),Option.getD_some] at this
   rw [List.take_succ_eq_append_getElem (by omega),this,show (0:Int)=((0:Nat):Int) from rfl,vI_snoc,ih (by omega) (fun j hj=>h0 j (by omega))]
 have hlen:(bs.take m).length=m:=by rw [List.length_take];omega
 obtain ⟨qs,ρ,g1,g2,g3,g4,r',g5,g6,g7⟩:=dvB_go zs bs (m:Int) b s h1 hl (bs.length - m) (bs.take m) 0 (by rw [hlen];omega) hz.2 (by decide) (by rw [hlen,hz.1])
 rw [hlen,List.take_append_drop] at g1
 refine ⟨ρ,g1,g3,g4,by omega,by rw [g6];omega,fun m' e j hj=> ?_⟩
 have e:m'=m:=by omega
 subst e
 rw [g2,List.getD_eq_getElem?_getD,List.getElem?_append_left (by rw [hlen];exact hj),List.getElem?_take,if_pos hj,← List.getD_eq_getElem?_getD]
 exact h0 j hj
def told_dvB (κ:List Int→List Int→Int→Int→Int→Bool→ByteArray→Bool) (φ:List Int→List Int→Int→Int→Int→Bool→ByteArray→Int×Int×List Int) (T:List AV) (H:Hp):Option (Bool×Ex×List AV×Hp):=
 match lget T 1,lget T 3,lget T 4,lget T 5,lget T 6,lget T 7,H with
 | .ptr 0 0, .sl false 5 1 0 m_zs, .sl false 5 2 0 m_bs, .val (.int .i64 a), .val (.int .i64 r), .val (.int .i64 i), [.row (.cells [.val (.bool b), .val (.string s)]) 38 .live, .row (.ints .u8 zs) 5 .live, .row (.ints .u8 bs) 5 .live]=>bif T.length==95 then some (decide (m_zs=zs.length)&&decide (m_bs=bs.length)&&κ zs bs a r i b s, .exit 2,sh_dvB zs ((φ zs bs a r i b s).2.2) a ((φ zs bs a r i b s).1) ((φ zs bs a r i b s).2.1) b s,hp_dvB zs ((φ zs bs a r i b s).2.2) a ((φ zs bs a r i b s).1) ((φ zs bs a r i b s).2.1) b s) else none
 | _,_,_,_,_,_,_=>none
abbrev KT_dvB:Type:=List Int→List Int→Int→Int→Int→Bool→ByteArray→Bool
abbrev FT_dvB:Type:=List Int→List Int→Int→Int→Int→Bool→ByteArray→Int×Int×List Int
def LL_dvB (κ:KT_dvB) (φ:FT_dvB) (L:LTab):LTab:=addLn 0 25 p_dvB [1,3,4,5,6,7] (told_dvB κ φ) L
def phi_dvB (zs:List Int) (bs:List Int) (a:Int) (r:Int) (i:Int) (b:Bool) (s:ByteArray):Int×Int×List Int:=Classical.epsilon fun ρ=>LoopTo Tryz.prog (lb 25 p_dvB) (sh_dvB zs bs a r i b s) (hp_dvB zs bs a r i b s) (.exit 2) (sh_dvB zs (ρ.2.2) a (ρ.1) (ρ.2.1) b s) (hp_dvB zs (ρ.2.2) a (ρ.1) (ρ.2.1) b s)∧post_dvB zs bs a r i b s ρ
theorem phi_dvB_spec (zs:List Int) (bs:List Int) (a:Int) (r:Int) (i:Int) (b:Bool) (s:ByteArray) (h:pre_dvB zs bs a r i b s):LoopTo Tryz.prog (lb 25 p_dvB) (sh_dvB zs bs a r i b s) (hp_dvB zs bs a r i b s) (.exit 2) (sh_dvB zs ((phi_dvB zs bs a r i b s).2.2) a ((phi_dvB zs bs a r i b s).1) ((phi_dvB zs bs a r i b s).2.1) b s) (hp_dvB zs ((phi_dvB zs bs a r i b s).2.2) a ((phi_dvB zs bs a r i b s).1) ((phi_dvB zs bs a r i b s).2.1) b s)∧post_dvB zs bs a r i b s (phi_dvB zs bs a r i b s):=Classical.epsilon_spec (loop_dvB zs bs a r i b s h)
def cond_dvB (zs:List Int) (bs:List Int) (a:Int) (r:Int) (i:Int) (b:Bool) (s:ByteArray):Bool:= @decide (pre_dvB zs bs a r i b s) (Classical.propDecidable _)
theorem cond_dvB_eq (zs:List Int) (bs:List Int) (a:Int) (r:Int) (i:Int) (b:Bool) (s:ByteArray) (h:pre_dvB zs bs a r i b s):cond_dvB zs bs a r i b s=true:= @decide_eq_true _ (Classical.propDecidable _) h
theorem told_dvB_ok (T:List AV) (H:Hp) (e:Ex) (T1:List AV) (H1:Hp) (h:told_dvB cond_dvB phi_dvB T H=some (true,e,T1,H1)):V.Ends Tryz.prog false 0 0 (.loop (lb 25 p_dvB)) T H e T1 H1:=by
 unfold told_dvB at h
 split at h
 ·rename_i m_zs m_bs a r i b s zs bs h1 h3 h4 h5 h6 h7
  rw [Bool.cond_eq_ite] at h
  split at h
  ·rename_i hlen
   rw [beq_iff_eq] at hlen
   simp only [Option.some.injEq,Prod.mk.injEq,Bool.and_eq_true,decide_eq_true_eq] at h
   obtain ⟨⟨⟨k1,k2⟩,k3⟩,rfl,rfl,rfl⟩:=h
   have kc:= @of_decide_eq_true _ (Classical.propDecidable _) k3
   refine Ends.pre (phi_dvB_spec zs bs a r i b s kc).1.ends (fun α B w D ys hr=>slots_rel hlen (fun p hp y hy=> ?_) hr)
   simp only [List.mem_cons,List.not_mem_nil,or_false] at hp
   rcases hp with rfl | rfl | rfl | rfl | rfl | rfl
   ·rw [h1] at hy;exact hy
   ·rw [h3] at hy;rw [← k1];exact hy
   ·rw [h4] at hy;rw [← k2];exact hy
   ·rw [h5] at hy;exact hy
   ·rw [h6] at hy;exact hy
   ·rw [h7] at hy;exact hy
  ·cases h
 ·cases h
theorem LL_dvB_ok {L:LTab} (h:LOk Tryz.prog L):LOk Tryz.prog (LL_dvB cond_dvB phi_dvB L):=h.add2n body_dvB told_dvB_ok
end
end Go.Proofs.YtibaendebbicjaaGreat.L
namespace Go.Proofs.YtibaendebbicjaaGreat.L
open Go Go.V Go.RowKit Go.Proofs.YtibaendebbicjaaGreat.Sp
open Go.Proofs (Tryz.prog)
noncomputable section
abbrev p_sk:List Bool:= [false,true,true,true,false,true,false,false,true,false,true,true,true,true,true]
def sh_sk (zs:List Int) (bs:List Int) (a:Int) (b:Bool) (s:ByteArray):List AV:=slots 95 [(1, .ptr 0 0),(3, .sl false 5 1 0 zs.length),(4, .sl false 5 2 0 bs.length),(5, .val (.int .i64 a))]
def hp_sk (zs:List Int) (bs:List Int) (a:Int) (b:Bool) (s:ByteArray):Hp:= [.row (.cells [.val (.bool b), .val (.string s)]) 38 .live, .row (.ints .u8 zs) 5 .live, .row (.ints .u8 bs) 5 .live]
theorem body_sk:subC Tryz.prog 25 p_sk=some (.loop (lb 25 p_sk)):=by kernel_rfl
theorem code_sk:subC Tryz.prog 25 (false :: p_sk)=some (lb 25 p_sk):=by kernel_rfl
theorem round_sk (zs:List Int) (bs:List Int) (a:Int) (b:Bool) (s:ByteArray):roundA Tryz.prog EL0 25 [1,3,4,5] (lb 25 p_sk) (false :: p_sk) (sh_sk zs bs a b s) (hp_sk zs bs a b s)=
  (bif decide (a < (↑bs.length:Int)) then (bif decide ((0:Int)≤a)&&decide (a < (↑bs.length:Int)) then (bif decide ((0:Nat)+a.toNat*(1:Nat) < bs.length) then (bif decide (bs.getD ((0:Nat)+a.toNat*(1:Nat)) (0:Int)=(0:Int)) then (bif inR IntKind.i64 (a+(1:Int)) then some (.normal,slots 95 [(1,(.ptr 0 0)),(3,(.sl false 5 1 0 zs.length)),(4,(.sl false 5 2 0 bs.length)),(5,(.val (.int .i64 (a+(1:Int)))))], [(.row (.cells [(.val (.bool b)),(.val (.string s))]) 38 .live),(.row (.ints .u8 zs) 5 .live),(.row (.ints .u8 bs) 5 .live)]) else none) else some ((.exit 4),slots 95 [(1,(.ptr 0 0)),(3,(.sl false 5 1 0 zs.length)),(4,(.sl false 5 2 0 bs.length)),(5,(.val (.int .i64 a)))], [(.row (.cells [(.val (.bool b)),(.val (.string s))]) 38 .live),(.row (.ints .u8 zs) 5 .live),(.row (.ints .u8 bs) 5 .live)])) else none) else none) else some ((.exit 4),slots 95 [(1,(.ptr 0 0)),(3,(.sl false 5 1 0 zs.length)),(4,(.sl false 5 2 0 bs.length)),(5,(.val (.int .i64 a)))], [(.row (.cells [(.val (.bool b)),(.val (.string s))]) 38 .live),(.row (.ints .u8 zs) 5 .live),(.row (.ints .u8 bs) 5 .live)])):=by kernel_rfl
theorem step_sk {zs:List Int} {bs:List Int} {a:Int} {b:Bool} {s:ByteArray} {e:Ex} {T:List AV} {H:Hp} (h:roundA Tryz.prog EL0 25 [1,3,4,5] (lb 25 p_sk) (false :: p_sk) (sh_sk zs bs a b s) (hp_sk zs bs a b s)=some (e,T,H)):V.Ends Tryz.prog false 0 0 (lb 25 p_sk) (sh_sk zs bs a b s) (hp_sk zs bs a b s) e T H:=
 round_ends (meets_none _) loops_none mixed code_sk h
def pre_sk (zs bs:List Int) (a:Int) (b:Bool) (s:ByteArray):Prop:=∃ m:Nat,a=m∧m≤bs.length∧(∀ j,j < m→bs.getD j 0=0)∧bs.length≤1000000000000
def post_sk (zs bs:List Int) (a:Int) (b:Bool) (s:ByteArray) (ρ:Int):Prop:=∃ m:Nat,ρ=m∧m≤bs.length∧(∀ j,j < m→bs.getD j 0=0)∧(m=bs.length∨bs.getD m 0≠0)
theorem sk_go (zs bs:List Int) (b:Bool) (s:ByteArray) (hl:bs.length≤1000000000000) (d:Nat):∀ m:Nat,m+d=bs.length→(∀ j,j < m→bs.getD j 0=0)→∃ ρ:Int,LoopTo Tryz.prog (lb 25 p_sk) (sh_sk zs bs m b s) (hp_sk zs bs m b s) (.exit 4) (sh_sk zs bs ρ b s) (hp_sk zs bs ρ b s)∧post_sk zs bs m b s ρ:=by
 induction d with
 | zero=>
  intro m hm h0
  refine ⟨(m:Int), .last (step_sk ?_) (by intro h;cases h),m,rfl,by omega,h0, .inl (by omega)⟩
  rw [round_sk,dF (show ¬ (m:Int) < (bs.length:Int) by omega)]
  rfl
 | succ d ih=>
  intro m hm h0
  have hr:=round_sk zs bs (m:Int) b s
  rw [dT (show (m:Int) < (bs.length:Int) by omega),dT (show (0:Int)≤(m:Int) by omega),Int.toNat_natCast,Nat.mul_one,Nat.zero_add,dT (show m < bs.length by omega),i64T (z:=(m:Int)+1) (by omega)] at hr
  by_cases hz:bs.getD m 0=0
  ·rw [dT hz] at hr
   obtain ⟨ρ,k1,k2⟩:=ih (m+1) (by omega) (fun j hj=>by
    by_cases h:j=m
    ·rw [h];exact hz
    ·exact h0 j (by omega))
   exact ⟨ρ, .more (step_sk hr) k1,k2⟩
  ·rw [dF hz] at hr
   exact ⟨(m:Int), .last (step_sk hr) (by intro h;cases h),m,rfl,by omega,h0, .inr hz⟩
theorem loop_sk (zs bs:List Int) (a:Int) (b:Bool) (s:ByteArray) (h:pre_sk zs bs a b s):∃ ρ:Int,LoopTo Tryz.prog (lb 25 p_sk) (sh_sk zs bs a b s) (hp_sk zs bs a b s) (.exit 4) (sh_sk zs bs ρ b s) (hp_sk zs bs ρ b s)∧post_sk zs bs a b s ρ:=by
 obtain ⟨m,rfl,h1,h2,h3⟩:=h
 exact sk_go zs bs b s h3 (bs.length - m) m (by omega) h2
def told_sk (κ:List Int→List Int→Int→Bool→ByteArray→Bool) (φ:List Int→List Int→Int→Bool→ByteArray→Int) (T:List AV) (H:Hp):Option (Bool×Ex×List AV×Hp):=
 match lget T 1,lget T 3,lget T 4,lget T 5,H with
 | .ptr 0 0, .sl false 5 1 0 m_zs, .sl false 5 2 0 m_bs, .val (.int .i64 a), [.row (.cells [.val (.bool b), .val (.string s)]) 38 .live, .row (.ints .u8 zs) 5 .live, .row (.ints .u8 bs) 5 .live]=>bif T.length==95 then some (decide (m_zs=zs.length)&&decide (m_bs=bs.length)&&κ zs bs a b s, .exit 4,sh_sk zs bs ((φ zs bs a b s)) b s,hp_sk zs bs ((φ zs bs a b s)) b s) else none
 | _,_,_,_,_=>none
abbrev KT_sk:Type:=List Int→List Int→Int→Bool→ByteArray→Bool
abbrev FT_sk:Type:=List Int→List Int→Int→Bool→ByteArray→Int
def LL_sk (κ:KT_sk) (φ:FT_sk) (L:LTab):LTab:=addLn 0 25 p_sk [1,3,4,5] (told_sk κ φ) L
def phi_sk (zs:List Int) (bs:List Int) (a:Int) (b:Bool) (s:ByteArray):Int:=Classical.epsilon fun ρ=>LoopTo Tryz.prog (lb 25 p_sk) (sh_sk zs bs a b s) (hp_sk zs bs a b s) (.exit 4) (sh_sk zs bs (ρ) b s) (hp_sk zs bs (ρ) b s)∧post_sk zs bs a b s ρ
theorem phi_sk_spec (zs:List Int) (bs:List Int) (a:Int) (b:Bool) (s:ByteArray) (h:pre_sk zs bs a b s):LoopTo Tryz.prog (lb 25 p_sk) (sh_sk zs bs a b s) (hp_sk zs bs a b s) (.exit 4) (sh_sk zs bs ((phi_sk zs bs a b s)) b s) (hp_sk zs bs ((phi_sk zs bs a b s)) b s)∧post_sk zs bs a b s (phi_sk zs bs a b s):=Classical.epsilon_spec (loop_sk zs bs a b s h)
def cond_sk (zs:List Int) (bs:List Int) (a:Int) (b:Bool) (s:ByteArray):Bool:= @decide (pre_sk zs bs a b s) (Classical.propDecidable _)
theorem cond_sk_eq (zs:List Int) (bs:List Int) (a:Int) (b:Bool) (s:ByteArray) (h:pre_sk zs bs a b s):cond_sk zs bs a b s=true:= @decide_eq_true _ (Classical.propDecidable _) h
theorem told_sk_ok (T:List AV) (H:Hp) (e:Ex) (T1:List AV) (H1:Hp) (h:told_sk cond_sk phi_sk T H=some (true,e,T1,H1)):V.Ends Tryz.prog false 0 0 (.loop (lb 25 p_sk)) T H e T1 H1:=by
 unfold told_sk at h
 split at h
 ·rename_i m_zs m_bs a b s zs bs h1 h3 h4 h5
  rw [Bool.cond_eq_ite] at h
  split at h
  ·rename_i hlen
   rw [beq_iff_eq] at hlen
   simp only [Option.some.injEq,Prod.mk.injEq,Bool.and_eq_true,decide_eq_true_eq] at h
   obtain ⟨⟨⟨k1,k2⟩,k3⟩,rfl,rfl,rfl⟩:=h
   have kc:= @of_decide_eq_true _ (Classical.propDecidable _) k3
   refine Ends.pre (phi_sk_spec zs bs a b s kc).1.ends (fun α B w D ys hr=>slots_rel hlen (fun p hp y hy=> ?_) hr)
   simp only [List.mem_cons,List.not_mem_nil,or_false] at hp
   rcases hp with rfl | rfl | rfl | rfl
   ·rw [h1] at hy;exact hy
   ·rw [h3] at hy;rw [← k1];exact hy
   ·rw [h4] at hy;rw [← k2];exact hy
   ·rw [h5] at hy;exact hy
  ·cases h
 ·cases h
theorem LL_sk_ok {L:LTab} (h:LOk Tryz.prog L):LOk Tryz.prog (LL_sk cond_sk phi_sk L):=h.add2n body_sk told_sk_ok
abbrev p_rv:List Bool:= [false,true,false,true,true,true,true,true,true,true]
def sh_rv (zs:List Int) (i:Int) (k:Int):List AV:=slots 95 [(3, .sl false 5 0 0 zs.length),(8, .val (.int .i64 i)),(9, .val (.int .i64 k))]
def hp_rv (zs:List Int) (i:Int) (k:Int):Hp:= [.row (.ints .u8 zs) 5 .live]
theorem body_rv:subC Tryz.prog 25 p_rv=some (.loop (lb 25 p_rv)):=by kernel_rfl
theorem code_rv:subC Tryz.prog 25 (false :: p_rv)=some (lb 25 p_rv):=by kernel_rfl
theorem round_rv (zs:List Int) (i:Int) (k:Int):letI q_1:=(zs.set ((0:Nat)+i.toNat*(1:Nat)) (zs.getD ((0:Nat)+k.toNat*(1:Nat)) (0:Int)));
  (roundA Tryz.prog EL0 25 [3,8,9] (lb 25 p_rv) (false :: p_rv) (sh_rv zs i k) (hp_rv zs i k)=(bif decide (i < k) then (bif decide ((0:Int)≤k)&&decide (k < (↑zs.length:Int)) then (bif decide ((0:Nat)+k.toNat*(1:Nat) < zs.length) then (bif decide ((0:Int)≤i)&&decide (i < (↑zs.length:Int)) then (bif decide ((0:Nat)+i.toNat*(1:Nat) < zs.length) then (bif decide ((0:Int)≤i)&&decide (i < (↑zs.length:Int)) then (bif decide ((0:Nat)+i.toNat*(1:Nat) < zs.length) then (bif decide ((0:Int)≤k)&&decide (k < (↑zs.length:Int)) then (bif decide ((0:Nat)+k.toNat*(1:Nat) < q_1.length) then (bif inR IntKind.i64 (i+(1:Int)) then (bif inR IntKind.i64 (k - (1:Int)) then some (.normal,slots 95 [(3,(.sl false 5 0 0 zs.length)),(8,(.val (.int .i64 (i+(1:Int))))),(9,(.val (.int .i64 (k - (1:Int)))))], [(.row (.ints .u8 (q_1.set ((0:Nat)+k.toNat*(1:Nat)) (zs.getD ((0:Nat)+i.toNat*(1:Nat)) (0:Int)))) 5 .live)]) else none) else none) else none) else none) else none) else none) else none) else none) else none) else none) else some ((.exit 6),slots 95 [(3,(.sl false 5 0 0 zs.length)),(8,(.val (.int .i64 i))),(9,(.val (.int .i64 k)))], [(.row (.ints .u8 zs) 5 .live)]))):=by kernel_rfl
theorem step_rv {zs:List Int} {i:Int} {k:Int} {e:Ex} {T:List AV} {H:Hp} (h:roundA Tryz.prog EL0 25 [3,8,9] (lb 25 p_rv) (false :: p_rv) (sh_rv zs i k) (hp_rv zs i k)=some (e,T,H)):V.Ends Tryz.prog false 0 0 (lb 25 p_rv) (sh_rv zs i k) (hp_rv zs i k) e T H:=
 round_ends (meets_none _) loops_none mixed code_rv h
def pre_rv (zs:List Int) (i k:Int):Prop:=i=0∧k=(zs.length:Int) - 1∧zs.length≤1000000000000
def post_rv (zs:List Int) (i k:Int) (ρ:Int×Int×List Int):Prop:=ρ.2.2=zs.reverse
theorem two_ends (l:List Int):l= []∨(∃ x,l= [x])∨∃ x m y,l=x :: (m ++ [y]):=by
 cases l with
 | nil=>exact .inl rfl
 | cons x l=>
  rcases List.eq_nil_or_concat l with rfl | ⟨m,y,rfl⟩
  ·exact .inr (.inl ⟨x,rfl⟩)
  ·exact .inr (.inr ⟨x,m,y,by rw [List.concat_eq_append]⟩)
theorem rv_go (d:Nat):∀ (M P Q:List Int),M.length≤d→P.length=Q.length→(P ++ M ++ Q).length≤1000000000000→∃ ρ:Int×Int×List Int,LoopTo Tryz.prog (lb 25 p_rv) (sh_rv (P ++ M ++ Q) P.length ((P.length:Int)+M.length - 1)) (hp_rv (P ++ M ++ Q) P.length ((P.length:Int)+M.length - 1)) (.exit 6) (sh_rv ρ.2.2 ρ.1 ρ.2.1) (hp_rv ρ.2.2 ρ.1 ρ.2.1)∧ρ.2.2=P ++ M.reverse ++ Q:=by
 induction d using Nat.strongRecOn with
 | _ d ih=>
  intro M P Q hd hpq hl
  rcases two_ends M with rfl | ⟨x,rfl⟩ | ⟨x,m,y,rfl⟩
  ·refine ⟨((P.length:Int),(P.length:Int)+(0:Nat) - 1,P ++ [] ++ Q), .last (step_rv ?_) (by intro h;cases h),rfl⟩
   rw [round_rv,dF (show ¬ (P.length:Int) < (P.length:Int)+(([]:List Int).length:Int) - 1 by show ¬ (P.length:Int) < (P.length:Int)+0 - 1;omega)]
   rfl
  ·refine ⟨((P.length:Int),(P.length:Int)+(1:Nat) - 1,P ++ [x] ++ Q), .last (step_rv ?_) (by intro h;cases h),rfl⟩
   rw [round_rv,dF (show ¬ (P.length:Int) < (P.length:Int)+(([x]:List Int).length:Int) - 1 by show ¬ (P.length:Int) < (P.length:Int)+1 - 1;omega)]
   rfl
  ·have hml:(x :: (m ++ [y])).length=m.length+2:=by rw [List.length_cons,List.length_append];rfl
   have hlen:(P ++ x :: (m ++ [y]) ++ Q).length=P.length+m.length+2+Q.length:=by rw [List.length_append,List.length_append,hml];omega
   have hr:=round_rv (P ++ x :: (m ++ [y]) ++ Q) P.length ((P.length:Int)+(x :: (m ++ [y])).length - 1)
   have ek:(P.length:Int)+((x :: (m ++ [y])).length:Int) - 1=((P.length+m.length+1:Nat):Int):=by rw [hml];omega
   rw [ek] at hr ⊢
   have s1:P ++ x :: (m ++ [y]) ++ Q=P ++ x :: (m ++ y :: Q):=by simp
   have s2:P ++ x :: (m ++ y :: Q)=(P ++ x :: m) ++ y :: Q:=by simp
   have s3:P ++ y :: (m ++ y :: Q)=(P ++ y :: m) ++ y :: Q:=by simp
   have l2:(P ++ x :: m).length=P.length+m.length+1:=by rw [List.length_append,List.length_cons];omega
   have l3:(P ++ y :: m).length=P.length+m.length+1:=by rw [List.length_append,List.length_cons];omega
   have g1:(P ++ x :: (m ++ y :: Q)).getD (P.length+m.length+1) 0=y:=by rw [s2,← l2];exact get_mid _ _ _
   have g2:(P ++ y :: (m ++ y :: Q)).set (P.length+m.length+1) x=(P ++ y :: m) ++ x :: Q:=by rw [s3,← l3];exact set_mid _ _ _ _
   rw [s1] at hr hlen hl ⊢
   have hq:(P ++ y :: (m ++ y :: Q)).length=P.length+m.length+2+Q.length:=by rw [List.length_append,List.length_cons,List.length_append,List.length_cons];omega
   rw [hlen,Int.toNat_natCast,Int.toNat_natCast,Nat.mul_one,Nat.mul_one,Nat.zero_add,Nat.zero_add,g1,get_mid,set_mid,g2,dT (show (P.length:Int) < ((P.length+m.length+1:Nat):Int) by omega),dT (show (0:Int)≤((P.length+m.length+1:Nat):Int) by omega),dT (show ((P.length+m.length+1:Nat):Int) < ((P.length+m.length+2+Q.length:Nat):Int) by omega),dT (show P.length+m.length+1 < P.length+m.length+2+Q.length by omega),dT (show (0:Int)≤(P.length:Int) by omega),dT (show (P.length:Int) < ((P.length+m.length+2+Q.length:Nat):Int) by omega),dT (show P.length < P.length+m.length+2+Q.length by omega),i64T (z:=(P.length:Int)+1) (by omega),i64T (z:=((P.length+m.length+1:Nat):Int) - 1) (by omega),hq,dT (show P.length+m.length+1 < P.length+m.length+2+Q.length by omega)] at hr
   obtain ⟨ρ,k1,k2⟩:=ih m.length (by rw [hml] at hd;omega) m (P ++ [y]) (x :: Q) (Nat.le_refl _) (by simp only [List.length_append,List.length_cons,List.length_nil];omega) (by
    clear hr;simp only [List.length_append,List.length_cons,List.length_nil] at hlen hl ⊢;omega)
   have s4:P ++ [y] ++ m ++ x :: Q=P ++ y :: m ++ x :: Q:=by simp
   have l4:((P ++ [y]).length:Int)=(P.length:Int)+1:=by rw [List.length_append];show ((P.length+1:Nat):Int)=_;omega
   rw [s4,l4] at k1
   refine ⟨ρ, .more (step_rv (hr.trans ?_)) k1,by rw [k2];simp⟩
   unfold sh_rv hp_rv
   have l5:(P ++ y :: m ++ x :: Q).length=P.length+m.length+2+Q.length:=by simp only [List.length_append,List.length_cons];omega
   rw [l5,show ((P.length+m.length+1:Nat):Int) - 1=(P.length:Int)+1+(m.length:Int) - 1 by omega]
   rfl
theorem loop_rv (zs:List Int) (i k:Int) (h:pre_rv zs i k):∃ ρ:Int×Int×List Int,LoopTo Tryz.prog (lb 25 p_rv) (sh_rv zs i k) (hp_rv zs i k) (.exit 6) (sh_rv ρ.2.2 ρ.1 ρ.2.1) (hp_rv ρ.2.2 ρ.1 ρ.2.1)∧post_rv zs i k ρ:=by
 obtain ⟨rfl,rfl,h1⟩:=h
 obtain ⟨ρ,k1,k2⟩:=rv_go zs.length zs [] [] (Nat.le_refl _) rfl (by simpa using h1)
 simp only [List.nil_append,List.append_nil,List.length_nil] at k1 k2
 rw [show ((0:Nat):Int)+(zs.length:Int) - 1=(zs.length:Int) - 1 by omega] at k1
 exact ⟨ρ,k1,k2⟩
def told_rv (κ:List Int→Int→Int→Bool) (φ:List Int→Int→Int→Int×Int×List Int) (T:List AV) (H:Hp):Option (Bool×Ex×List AV×Hp):=
 match lget T 3,lget T 8,lget T 9,H with
 | .sl false 5 0 0 m_zs, .val (.int .i64 i), .val (.int .i64 k), [.row (.ints .u8 zs) 5 .live]=>bif T.length==95 then some (decide (m_zs=zs.length)&&κ zs i k, .exit 6,sh_rv ((φ zs i k).2.2) ((φ zs i k).1) ((φ zs i k).2.1),hp_rv ((φ zs i k).2.2) ((φ zs i k).1) ((φ zs i k).2.1)) else none
 | _,_,_,_=>none
abbrev KT_rv:Type:=List Int→Int→Int→Bool
abbrev FT_rv:Type:=List Int→Int→Int→Int×Int×List Int
def LL_rv (κ:KT_rv) (φ:FT_rv) (L:LTab):LTab:=addLn 0 25 p_rv [3,8,9] (told_rv κ φ) L
def phi_rv (zs:List Int) (i:Int) (k:Int):Int×Int×List Int:=Classical.epsilon fun ρ=>LoopTo Tryz.prog (lb 25 p_rv) (sh_rv zs i k) (hp_rv zs i k) (.exit 6) (sh_rv (ρ.2.2) (ρ.1) (ρ.2.1)) (hp_rv (ρ.2.2) (ρ.1) (ρ.2.1))∧post_rv zs i k ρ
theorem phi_rv_spec (zs:List Int) (i:Int) (k:Int) (h:pre_rv zs i k):LoopTo Tryz.prog (lb 25 p_rv) (sh_rv zs i k) (hp_rv zs i k) (.exit 6) (sh_rv ((phi_rv zs i k).2.2) ((phi_rv zs i k).1) ((phi_rv zs i k).2.1)) (hp_rv ((phi_rv zs i k).2.2) ((phi_rv zs i k).1) ((phi_rv zs i k).2.1))∧post_rv zs i k (phi_rv zs i k):=Classical.epsilon_spec (loop_rv zs i k h)
def cond_rv (zs:List Int) (i:Int) (k:Int):Bool:= @decide (pre_rv zs i k) (Classical.propDecidable _)
theorem cond_rv_eq (zs:List Int) (i:Int) (k:Int) (h:pre_rv zs i k):cond_rv zs i k=true:= @decide_eq_true _ (Classical.propDecidable _) h
theorem told_rv_ok (T:List AV) (H:Hp) (e:Ex) (T1:List AV) (H1:Hp) (h:told_rv cond_rv phi_rv T H=some (true,e,T1,H1)):V.Ends Tryz.prog false 0 0 (.loop (lb 25 p_rv)) T H e T1 H1:=by
 unfold told_rv at h
 split at h
 ·rename_i m_zs i k zs h3 h8 h9
  rw [Bool.cond_eq_ite] at h
  split at h
  ·rename_i hlen
   rw [beq_iff_eq] at hlen
   simp only [Option.some.injEq,Prod.mk.injEq,Bool.and_eq_true,decide_eq_true_eq] at h
   obtain ⟨⟨k1,k2⟩,rfl,rfl,rfl⟩:=h
   have kc:= @of_decide_eq_true _ (Classical.propDecidable _) k2
   refine Ends.pre (phi_rv_spec zs i k kc).1.ends (fun α B w D ys hr=>slots_rel hlen (fun p hp y hy=> ?_) hr)
   simp only [List.mem_cons,List.not_mem_nil,or_false] at hp
   rcases hp with rfl | rfl | rfl
   ·rw [h3] at hy;rw [← k1];exact hy
   ·rw [h8] at hy;exact hy
   ·rw [h9] at hy;exact hy
  ·cases h
 ·cases h
theorem LL_rv_ok {L:LTab} (h:LOk Tryz.prog L):LOk Tryz.prog (LL_rv cond_rv phi_rv L):=h.add2n body_rv told_rv_ok
end
end Go.Proofs.YtibaendebbicjaaGreat.L
namespace Go.Proofs.YtibaendebbicjaaGreat.L
open Go Go.V Go.RowKit Go.Proofs.YtibaendebbicjaaGreat.Sp
open Go.Proofs (Tryz.prog)
noncomputable section
def EoA (κ1:KT_dvA) (φ1:FT_dvA) (κ2:KT_sk) (φ2:FT_sk):Env:= ⟨noC,fun _=>false,LL_dvA κ1 φ1 (LL_sk κ2 φ2 noL)⟩
def EoB (κ1:KT_dvB) (φ1:FT_dvB) (κ2:KT_sk) (φ2:FT_sk):Env:= ⟨noC,fun _=>false,LL_dvB κ1 φ1 (LL_sk κ2 φ2 noL)⟩
abbrev p_oA:List Bool:= [false,true,false,true,true,true,true,true]
def sh_oA (bs:List Int) (a:Int) (b:Bool) (s:ByteArray):List AV:=slots 95 [(1, .ptr 0 0),(3, .val (.slice none 0 0)),(4, .sl false 5 1 0 bs.length),(5, .val (.int .i64 a))]
def hp_oA (bs:List Int) (a:Int) (b:Bool) (s:ByteArray):Hp:= [.row (.cells [.val (.bool b), .val (.string s)]) 38 .live, .row (.ints .u8 bs) 5 .live]
theorem body_oA:subC Tryz.prog 25 p_oA=some (.loop (lb 25 p_oA)):=by kernel_rfl
theorem code_oA:subC Tryz.prog 25 (false :: p_oA)=some (lb 25 p_oA):=by kernel_rfl
theorem round_oA (κ1:KT_dvA) (φ1:FT_dvA) (κ2:KT_sk) (φ2:FT_sk) (bs:List Int) (a:Int) (b:Bool) (s:ByteArray):roundA Tryz.prog (EoA κ1 φ1 κ2 φ2) 25 [1,3,4,5] (lb 25 p_oA) (false :: p_oA) (sh_oA bs a b s) (hp_oA bs a b s)=
  (bif decide (a < (↑bs.length:Int)) then (bif decide (bs.length=bs.length)&&κ1 bs a (0:Int) a b s then (bif inR IntKind.i64 ((48:Int)+(φ1 bs a (0:Int) a b s).fst) then (bif decide ((φ1 bs a (0:Int) a b s).snd.snd.length=(φ1 bs a (0:Int) a b s).snd.snd.length)&&κ2 [IntKind.u8.wrap ((48:Int)+(φ1 bs a (0:Int) a b s).fst)] (φ1 bs a (0:Int) a b s).snd.snd a b s then some (.normal,slots 95 [(1,(.ptr 0 0)),(3,(.sl false 5 1 0 1)),(4,(.sl false 5 2 0 ((φ1 bs a (0:Int) a b s).snd.snd.length))),(5,(.val (.int .i64 (φ2 [IntKind.u8.wrap ((48:Int)+(φ1 bs a (0:Int) a b s).fst)] (φ1 bs a (0:Int) a b s).snd.snd a b s))))], [(.row (.cells [(.val (.bool b)),(.val (.string s))]) 38 .live),(.row (.ints .u8 ([IntKind.u8.wrap ((48:Int)+(φ1 bs a (0:Int) a b s).fst)])) 5 .live),(.row (.ints .u8 ((φ1 bs a (0:Int) a b s).snd.snd)) 5 .live)]) else none) else none) else none) else some ((.exit 0),slots 95 [(1,(.ptr 0 0)),(3,(.val (.slice .none 0 0))),(4,(.sl false 5 1 0 bs.length)),(5,(.val (.int .i64 a)))], [(.row (.cells [(.val (.bool b)),(.val (.string s))]) 38 .live),(.row (.ints .u8 bs) 5 .live)])):=by kernel_rfl
theorem step_oA {bs:List Int} {a:Int} {b:Bool} {s:ByteArray} {e:Ex} {T:List AV} {H:Hp} (h:roundA Tryz.prog (EoA cond_dvA phi_dvA cond_sk phi_sk) 25 [1,3,4,5] (lb 25 p_oA) (false :: p_oA) (sh_oA bs a b s) (hp_oA bs a b s)=some (e,T,H)):V.Ends Tryz.prog false 0 0 (lb 25 p_oA) (sh_oA bs a b s) (hp_oA bs a b s) e T H:=
 round_ends (meets_none _) (LL_dvA_ok (LL_sk_ok LOk.none)).ok mixed code_oA h
abbrev p_oB:List Bool:= [false,true,false,true,true,true,true,true]
def sh_oB (zs:List Int) (bs:List Int) (a:Int) (b:Bool) (s:ByteArray):List AV:=slots 95 [(1, .ptr 0 0),(3, .sl false 5 1 0 zs.length),(4, .sl false 5 2 0 bs.length),(5, .val (.int .i64 a))]
def hp_oB (zs:List Int) (bs:List Int) (a:Int) (b:Bool) (s:ByteArray):Hp:= [.row (.cells [.val (.bool b), .val (.string s)]) 38 .live, .row (.ints .u8 zs) 5 .live, .row (.ints .u8 bs) 5 .live]
theorem code_oB:subC Tryz.prog 25 (false :: p_oB)=some (lb 25 p_oB):=by kernel_rfl
theorem round_oB (κ1:KT_dvB) (φ1:FT_dvB) (κ2:KT_sk) (φ2:FT_sk) (zs:List Int) (bs:List Int) (a:Int) (b:Bool) (s:ByteArray):letI q_2:=(φ1 zs bs a (0:Int) a b s);letI q_1:=(List.take (zs.length*(1:Nat)) zs ++ [IntKind.u8.wrap ((48:Int)+q_2.fst)]);
  (roundA Tryz.prog (EoB κ1 φ1 κ2 φ2) 25 [1,3,4,5] (lb 25 p_oB) (false :: p_oB) (sh_oB zs bs a b s) (hp_oB zs bs a b s)=(bif decide (a < (↑bs.length:Int)) then (bif decide (zs.length=zs.length)&&decide (bs.length=bs.length)&&κ1 zs bs a (0:Int) a b s then (bif inR IntKind.i64 ((48:Int)+q_2.fst) then (bif decide (zs.length*(1:Nat)≤zs.length)&&roomA Tryz.prog (zs.length+(1:Nat)) (5:Nat)&&true then (bif decide (zs.length+(1:Nat)=q_1.length)&&decide (q_2.snd.snd.length=q_2.snd.snd.length)&&κ2 q_1 q_2.snd.snd a b s then some (.normal,slots 95 [(1,(.ptr 0 0)),(3,(.sl false 5 1 0 (q_1.length))),(4,(.sl false 5 2 0 (q_2.snd.snd.length))),(5,(.val (.int .i64 (φ2 q_1 q_2.snd.snd a b s))))], [(.row (.cells [(.val (.bool b)),(.val (.string s))]) 38 .live),(.row (.ints .u8 q_1) 5 .live),(.row (.ints .u8 (q_2.snd.snd)) 5 .live)]) else none) else none) else none) else none) else some ((.exit 0),slots 95 [(1,(.ptr 0 0)),(3,(.sl false 5 1 0 zs.length)),(4,(.sl false 5 2 0 bs.length)),(5,(.val (.int .i64 a)))], [(.row (.cells [(.val (.bool b)),(.val (.string s))]) 38 .live),(.row (.ints .u8 zs) 5 .live),(.row (.ints .u8 bs) 5 .live)]))):=by kernel_rfl
theorem step_oB {zs:List Int} {bs:List Int} {a:Int} {b:Bool} {s:ByteArray} {e:Ex} {T:List AV} {H:Hp} (h:roundA Tryz.prog (EoB cond_dvB phi_dvB cond_sk phi_sk) 25 [1,3,4,5] (lb 25 p_oB) (false :: p_oB) (sh_oB zs bs a b s) (hp_oB zs bs a b s)=some (e,T,H)):V.Ends Tryz.prog false 0 0 (lb 25 p_oB) (sh_oB zs bs a b s) (hp_oB zs bs a b s) e T H:=
 round_ends (meets_none _) (LL_dvB_ok (LL_sk_ok LOk.none)).ok mixed code_oB h
theorem vI_zero0:∀ (l:List Int) (n:Nat),l.foldl (fun n z=>n*256+z.toNat) n=0→n=0∧∀ z ∈ l,z.toNat=0
 | [],n,h=> ⟨h,fun z h=>by cases h⟩
 | x :: l,n,h=>by
  obtain ⟨h1,h2⟩:=vI_zero0 l (n*256+x.toNat) h
  refine ⟨by omega,fun z hz=> ?_⟩
  rcases List.mem_cons.1 hz with rfl | hz
  ·omega
  ·exact h2 z hz
theorem vI_pos {l:List Int} (h:okb l) {m:Nat} (hm:m < l.length) (h0:l.getD m 0≠0):vI l≠0:=by
 intro hz
 obtain ⟨c,_,he,hd⟩:=okb_get h hm
 have:=(vI_zero0 l 0 hz).2 l[m] (List.getElem_mem hm)
 rw [he] at this
 rw [hd] at h0
 apply h0
 omega
theorem vI_all0:∀ (l:List Int),(∀ j,j < l.length→l.getD j 0=0)→vI l=0:=by
 have key:∀ (l:List Int),(∀ j,j < l.length→l.getD j 0=0)→l.foldl (fun n z=>n*256+z.toNat) 0=0:=by
  intro l
  induction l with
  | nil=>intro _;rfl
  | cons x l ih=>
   intro h
   have h1:x=0:=h 0 (by show 0 < l.length+1;omega)
   subst h1
   exact ih fun j hj=>h (j+1) (by show j+1 < l.length+1;omega)
 exact key
theorem dp_snoc (j n:Nat):dp j n ++ [((n / 10 ^ j % 10+48:Nat):Int)]=dp (j+1) n:=by rw [dp_add];rfl
theorem oB_go (n:Nat) (b:Bool) (s:ByteArray):∀ (k j m:Nat) (bs:List Int),vI bs < 10 ^ k→vI bs=n / 10 ^ j→okb bs→m≤bs.length→(∀ i,i < m→bs.getD i 0=0)→(m=bs.length∨bs.getD m 0≠0)→bs.length≤1000000→j+k≤1000000000→(j=0∨10 ^ (j - 1)≤n)→
  ∃ (bs':List Int) (a':Int),LoopTo Tryz.prog (lb 25 p_oB) (sh_oB (dp j n) bs m b s) (hp_oB (dp j n) bs m b s) (.exit 0) (sh_oB (dp (dl n) n) bs' a' b s) (hp_oB (dp (dl n) n) bs' a' b s):=by
 intro k
 induction k with
 | zero=>
  intro j m bs hk hv hb hm h0 h1 hl hjk hj
  have hz:vI bs=0:=by rw [Nat.pow_zero] at hk;omega
  have hml:m=bs.length:=h1.resolve_right fun h=>by
   rcases Nat.lt_or_ge m bs.length with h2 | h2
   ·exact vI_pos hb h2 h hz
   ·exact h (by rw [List.getD_eq_getElem?_getD,List.getElem?_eq_none h2];rfl)
  have hn:n < 10 ^ j:=by
   have:n / 10 ^ j=0:=by omega
   rcases Nat.div_eq_zero_iff.1 this with h | h
   ·have:=Nat.pow_pos (n:=j) (show 0 < 10 by decide);omega
   ·exact h
  rw [dl_uniq hn hj]
  refine ⟨bs,(m:Int), .last (step_oB ?_) (by intro h;cases h)⟩
  rw [← dl_uniq hn hj,round_oB,dF (show ¬ (m:Int) < (bs.length:Int) by omega)]
  rfl
 | succ k ih=>
  intro j m bs hk hv hb hm h0 h1 hl hjk hj
  by_cases hml:m=bs.length
  ·have hz:vI bs=0:=vI_all0 bs (fun i hi=>h0 i (by omega))
   have hn:n < 10 ^ j:=by
    have:n / 10 ^ j=0:=by omega
    rcases Nat.div_eq_zero_iff.1 this with h | h
    ·have:=Nat.pow_pos (n:=j) (show 0 < 10 by decide);omega
    ·exact h
   rw [dl_uniq hn hj]
   refine ⟨bs,(m:Int), .last (step_oB ?_) (by intro h;cases h)⟩
   rw [← dl_uniq hn hj,round_oB,dF (show ¬ (m:Int) < (bs.length:Int) by omega)]
   rfl
  ·have hnz:=vI_pos hb (show m < bs.length by omega) (h1.resolve_left hml)
   have hn:10 ^ j≤n:=by
    rcases Nat.lt_or_ge n (10 ^ j) with h | h
    ·exact absurd (hv.trans (Nat.div_eq_of_lt h)) hnz
    ·exact h
   have hq:pre_dvB (dp j n) bs m 0 m b s:= ⟨hb,rfl,rfl,m,rfl,hm,h0,by omega⟩
   have hs:=(phi_dvB_spec _ _ _ _ _ _ _ hq).2
   have hr:=round_oB cond_dvB phi_dvB cond_sk phi_sk (dp j n) bs m b s
   generalize phi_dvB (dp j n) bs m 0 m b s=ρ at hs hr
   obtain ⟨g1,g2,g3,g4,g5⟩:=hs
   have g5:=g5 m rfl
   have hd:IntKind.u8.wrap (48+ρ.1)=((n / 10 ^ j % 10+48:Nat):Int):=by rw [g4,hv,IntKind.wrap_u8];omega
   have hlj:(dp j n).length=j:=dp_len _ _
   have hlj1:(dp (j+1) n).length=j+1:=dp_len _ _
   rw [hlj,Nat.mul_one,show (dp j n).take j=dp j n from List.take_of_length_le (by rw [hlj];exact Nat.le_refl _),hd,dp_snoc,hlj1] at hr
   have hp2:pre_sk (dp (j+1) n) ρ.2.2 m b s:= ⟨m,rfl,by omega,g5,by omega⟩
   have hs2:=(phi_sk_spec _ _ _ _ _ hp2).2
   rw [cond_dvB_eq _ _ _ _ _ _ _ hq,cond_sk_eq _ _ _ _ _ hp2,dT (show (m:Int) < (bs.length:Int) by omega),g4,i64T (z:=48+((vI bs % 10:Nat):Int)) (by omega),room5 (j+1) (by omega),dT (rfl:j=j),dT (rfl:bs.length=bs.length),dT (rfl:j+1=j+1),dT (rfl:ρ.2.2.length=ρ.2.2.length),dT (Nat.le_refl j)] at hr
   generalize phi_sk (dp (j+1) n) ρ.2.2 m b s=σ at hs2 hr
   obtain ⟨m',rfl,q1,q2,q3⟩:=hs2
   obtain ⟨bs',a',k1⟩:=ih (j+1) m' ρ.2.2 (by rw [g3,Nat.div_lt_iff_lt_mul (by decide),← Nat.pow_succ];exact hk) (by rw [g3,hv,Nat.div_div_eq_div_mul,Nat.pow_succ]) g1 q1 q2 q3 (by omega) (by omega) (.inr (by rw [Nat.add_sub_cancel];exact hn))
   refine ⟨bs',a', .more (step_oB (hr.trans ?_)) k1⟩
   unfold sh_oB hp_oB
   rw [hlj1]
   rfl
def pre_oA (bs:List Int) (a:Int) (b:Bool) (s:ByteArray):Prop:=okb bs∧a=0∧0 < bs.length∧bs.getD 0 0≠0∧bs.length≤1000000
def post_oA (bs:List Int) (a:Int) (b:Bool) (s:ByteArray) (ρ:List Int×List Int×Int):Prop:=ρ.1=dp (dl (vI bs)) (vI bs)
theorem vI_lt (l:List Int) (h:okb l):vI l < 256 ^ l.length:=by
 have key:∀ (l:List Int) (n:Nat),okb l→l.foldl (fun n z=>n*256+z.toNat) n < (n+1)*256 ^ l.length:=by
  intro l
  induction l with
  | nil=>intro n _;show n < (n+1)*1;omega
  | cons x l ih=>
   intro n h
   obtain ⟨c,hc,rfl⟩:=h x List.mem_cons_self
   have:=ih (n*256+c) (fun z hz=>h z (List.mem_cons_of_mem _ hz))
   refine Nat.lt_of_lt_of_le this ?_
   rw [List.length_cons,Nat.pow_succ,Nat.mul_comm (256 ^ l.length) 256,← Nat.mul_assoc]
   exact Nat.mul_le_mul_right _ (by omega)
 have:=key l 0 h
 rwa [Nat.zero_add,Nat.one_mul] at this
theorem loop_oA (bs:List Int) (a:Int) (b:Bool) (s:ByteArray) (h:pre_oA bs a b s):∃ ρ:List Int×List Int×Int,LoopTo Tryz.prog (lb 25 p_oA) (sh_oA bs a b s) (hp_oA bs a b s) (.exit 0) (sh_oB ρ.1 ρ.2.1 ρ.2.2 b s) (hp_oB ρ.1 ρ.2.1 ρ.2.2 b s)∧post_oA bs a b s ρ:=by
 obtain ⟨hb,rfl,h1,h2,hl⟩:=h
 have hnz:=vI_pos hb h1 h2
 have hq:pre_dvA bs ((0:Nat):Int) 0 ((0:Nat):Int) b s:= ⟨hb,rfl,rfl,0,rfl,Nat.zero_le _,fun j hj=>by omega,by omega⟩
 have hs:=(phi_dvA_spec _ _ _ _ _ _ hq).2
 have hr:=round_oA cond_dvA phi_dvA cond_sk phi_sk bs ((0:Nat):Int) b s
 generalize phi_dvA bs ((0:Nat):Int) 0 ((0:Nat):Int) b s=ρ at hs hr
 obtain ⟨g1,g2,g3,g4,g5⟩:=hs
 have hd: [IntKind.u8.wrap (48+ρ.1)]=dp 1 (vI bs):=by
  show _= [((vI bs % 10+48:Nat):Int)]
  rw [g4,IntKind.wrap_u8]
  refine congrArg (fun x=> [x]) ?_
  omega
 have hp2:pre_sk (dp 1 (vI bs)) ρ.2.2 ((0:Nat):Int) b s:= ⟨0,rfl,by omega,fun j hj=>by omega,by omega⟩
 have hs2:=(phi_sk_spec _ _ _ _ _ hp2).2
 rw [hd,cond_dvA_eq _ _ _ _ _ _ hq,cond_sk_eq _ _ _ _ _ hp2,dT (show ((0:Nat):Int) < (bs.length:Int) by omega),g4,i64T (z:=48+((vI bs % 10:Nat):Int)) (by omega),dT (rfl:bs.length=bs.length),dT (rfl:ρ.2.2.length=ρ.2.2.length)] at hr
 generalize phi_sk (dp 1 (vI bs)) ρ.2.2 ((0:Nat):Int) b s=σ at hs2 hr
 obtain ⟨m',rfl,q1,q2,q3⟩:=hs2
 have hlt:=vI_lt bs hb
 have hk:vI ρ.2.2 < 10 ^ (9*bs.length):=by
  rw [g3]
  refine Nat.lt_of_le_of_lt (Nat.div_le_self _ _) (Nat.lt_of_lt_of_le hlt ?_)
  rw [Nat.pow_mul]
  exact Nat.pow_le_pow_left (by decide) _
 obtain ⟨bs',a',k1⟩:=oB_go (vI bs) b s (9*bs.length) 1 m' ρ.2.2 hk (by rw [g3]) g1 q1 q2 q3 (by omega) (by omega) (.inr (by show 10 ^ 0≤_;rw [Nat.pow_zero];omega))
 exact ⟨(dp (dl (vI bs)) (vI bs),bs',a'), .more (step_oA hr) k1,rfl⟩
def told_oA (κ:List Int→Int→Bool→ByteArray→Bool) (φ:List Int→Int→Bool→ByteArray→List Int×List Int×Int) (T:List AV) (H:Hp):Option (Bool×Ex×List AV×Hp):=
 match lget T 1,lget T 3,lget T 4,lget T 5,H with
 | .ptr 0 0, .val (.slice none 0 0), .sl false 5 1 0 m_bs, .val (.int .i64 a), [.row (.cells [.val (.bool b), .val (.string s)]) 38 .live, .row (.ints .u8 bs) 5 .live]=>bif T.length==95 then some (decide (m_bs=bs.length)&&κ bs a b s, .exit 0,sh_oB ((φ bs a b s).1) ((φ bs a b s).2.1) ((φ bs a b s).2.2) b s,hp_oB ((φ bs a b s).1) ((φ bs a b s).2.1) ((φ bs a b s).2.2) b s) else none
 | _,_,_,_,_=>none
abbrev KT_oA:Type:=List Int→Int→Bool→ByteArray→Bool
abbrev FT_oA:Type:=List Int→Int→Bool→ByteArray→List Int×List Int×Int
def LL_oA (κ:KT_oA) (φ:FT_oA) (L:LTab):LTab:=addLn 0 25 p_oA [1,3,4,5] (told_oA κ φ) L
def phi_oA (bs:List Int) (a:Int) (b:Bool) (s:ByteArray):List Int×List Int×Int:=Classical.epsilon fun ρ=>LoopTo Tryz.prog (lb 25 p_oA) (sh_oA bs a b s) (hp_oA bs a b s) (.exit 0) (sh_oB (ρ.1) (ρ.2.1) (ρ.2.2) b s) (hp_oB (ρ.1) (ρ.2.1) (ρ.2.2) b s)∧post_oA bs a b s ρ
theorem phi_oA_spec (bs:List Int) (a:Int) (b:Bool) (s:ByteArray) (h:pre_oA bs a b s):LoopTo Tryz.prog (lb 25 p_oA) (sh_oA bs a b s) (hp_oA bs a b s) (.exit 0) (sh_oB ((phi_oA bs a b s).1) ((phi_oA bs a b s).2.1) ((phi_oA bs a b s).2.2) b s) (hp_oB ((phi_oA bs a b s).1) ((phi_oA bs a b s).2.1) ((phi_oA bs a b s).2.2) b s)∧post_oA bs a b s (phi_oA bs a b s):=Classical.epsilon_spec (loop_oA bs a b s h)
def cond_oA (bs:List Int) (a:Int) (b:Bool) (s:ByteArray):Bool:= @decide (pre_oA bs a b s) (Classical.propDecidable _)
theorem cond_oA_eq (bs:List Int) (a:Int) (b:Bool) (s:ByteArray) (h:pre_oA bs a b s):cond_oA bs a b s=true:= @decide_eq_true _ (Classical.propDecidable _) h
theorem told_oA_ok (T:List AV) (H:Hp) (e:Ex) (T1:List AV) (H1:Hp) (h:told_oA cond_oA phi_oA T H=some (true,e,T1,H1)):V.Ends Tryz.prog false 0 0 (.loop (lb 25 p_oA)) T H e T1 H1:=by
 unfold told_oA at h
 split at h
 ·rename_i m_bs a b s bs h1 h3 h4 h5
  rw [Bool.cond_eq_ite] at h
  split at h
  ·rename_i hlen
   rw [beq_iff_eq] at hlen
   simp only [Option.some.injEq,Prod.mk.injEq,Bool.and_eq_true,decide_eq_true_eq] at h
   obtain ⟨⟨k1,k2⟩,rfl,rfl,rfl⟩:=h
   have kc:= @of_decide_eq_true _ (Classical.propDecidable _) k2
   refine Ends.pre (phi_oA_spec bs a b s kc).1.ends (fun α B w D ys hr=>slots_rel hlen (fun p hp y hy=> ?_) hr)
   simp only [List.mem_cons,List.not_mem_nil,or_false] at hp
   rcases hp with rfl | rfl | rfl | rfl
   ·rw [h1] at hy;exact hy
   ·rw [h3] at hy;exact hy
   ·rw [h4] at hy;rw [← k1];exact hy
   ·rw [h5] at hy;exact hy
  ·cases h
 ·cases h
theorem LL_oA_ok {L:LTab} (h:LOk Tryz.prog L):LOk Tryz.prog (LL_oA cond_oA phi_oA L):=h.add2n body_oA told_oA_ok
def CRPr (S:Sg):FuncId→List AV→Option (Bool×AV):=addC 41 (tCanon S) noC
theorem rprint_tree (S:Sg) (κ1:KT_oA) (φ1:FT_oA) (κ2:KT_rv) (φ2:FT_rv) (b:Bool) (s:ByteArray):letI q_1:=(φ1 (bytesI (S.ms (S.val b s))) (0:Int) (S.ng (S.val b s)) (S.ms (S.val b s)));letI q_4:=(List.take (q_1.fst.length*(1:Nat)) q_1.fst ++ [(45:Int)]);letI q_5:=((↑(q_1.fst.length+(1:Nat)):Int) - (1:Int));letI q_2:=(φ2 q_4 (0:Int) q_5);letI q_3:=(φ2 q_1.fst (0:Int) ((↑q_1.fst.length:Int) - (1:Int)));
  (callA Tryz.prog ⟨CRPr S,fun _=>false,LL_oA κ1 φ1 (LL_rv κ2 φ2 noL)⟩ 10 10 25 [.agg [.val (.bool b), .val (.string s)]]=(bif strEq (S.ms (S.val b s)) (ByteArray.mk #[]) then some (.val (.string (ByteArray.mk #[(48:UInt8)]))) else (bif decide ((S.ms (S.val b s)).size=(bytesI (S.ms (S.val b s))).length)&&κ1 (bytesI (S.ms (S.val b s))) (0:Int) (S.ng (S.val b s)) (S.ms (S.val b s)) then (bif S.ng (S.val b s) then (bif decide (q_1.fst.length*(1:Nat)≤q_1.fst.length)&&roomA Tryz.prog (q_1.fst.length+(1:Nat)) (5:Nat)&&true then (bif inR IntKind.i64 q_5 then (bif decide (q_1.fst.length+(1:Nat)=q_4.length)&&κ2 q_4 (0:Int) q_5 then (bif decide ((0:Nat)+q_2.snd.snd.length*(1:Nat)≤q_2.snd.snd.length) then some (.val (.string (ofBytes (List.take (q_2.snd.snd.length*(1:Nat)) (List.drop (0:Nat) q_2.snd.snd))))) else none) else none) else none) else none) else (bif inR IntKind.i64 ((↑q_1.fst.length:Int) - (1:Int)) then (bif decide (q_1.fst.length=q_1.fst.length)&&κ2 q_1.fst (0:Int) ((↑q_1.fst.length:Int) - (1:Int)) then (bif decide ((0:Nat)+q_3.snd.snd.length*(1:Nat)≤q_3.snd.snd.length) then some (.val (.string (ofBytes (List.take (q_3.snd.snd.length*(1:Nat)) (List.drop (0:Nat) q_3.snd.snd))))) else none) else none) else none)) else none))):=by kernel_rfl
theorem CRPr_ok:Meets Tryz.prog (CRPr sg0):=(meets_none _).add eCanon
theorem vI_bytes (s:ByteArray):vI (bytesI s)=vS s:=by
 unfold vI bytesI vS vB
 rw [List.foldl_map]
 rfl
theorem okb_bytes (s:ByteArray):okb (bytesI s):=by
 intro z hz
 obtain ⟨c,_,rfl⟩:=List.mem_map.1 hz
 exact ⟨c.toNat,c.toNat_lt,rfl⟩
theorem bytes_mag (n:Nat):bytesI (magOf n)=(toB n).map fun c=>(c.toNat:Int):=by unfold bytesI;rw [magOf_data]
theorem lead_mag {n:Nat} (h:n≠0):0 < (bytesI (magOf n)).length∧(bytesI (magOf n)).getD 0 0≠0:=by
 rw [bytes_mag]
 have hl:=lead_toB n
 have hv:=vB_toB n
 cases ht:toB n with
 | nil=>rw [ht] at hv;exact absurd hv.symm h
 | cons c l=>
  rw [ht] at hl
  refine ⟨by rw [List.map_cons,List.length_cons];omega, ?_⟩
  show ((c.toNat:Nat):Int)≠0
  have hl:c≠0:=hl
  intro h0
  apply hl
  apply UInt8.toNat_inj.1
  show c.toNat=0
  omega
theorem eRPrint:Entry Tryz.prog 25 (tPrt sg0 txt):=by
 refine entry_of (E:= ⟨CRPr sg0,fun _=>false,LL_oA cond_oA phi_oA (LL_rv cond_rv phi_rv noL)⟩) (u:=10) (d:=10) CRPr_ok (LL_oA_ok (LL_rv_ok LOk.none)).ok mixed (by kernel_rfl) (fun args r h=> ?_)
 unfold tPrt at h
 split at h
 ·rename_i b s
  simp only [Option.some.injEq,Prod.mk.injEq] at h
  obtain ⟨h1,rfl⟩:=h
  have h1:s.size≤1000000:=of_decide_eq_true h1
  have hbs:=bs_val b s
  have hcall:=rprint_tree sg0 cond_oA phi_oA cond_rv phi_rv b s
  generalize sg0.val b s=z at*
  have hm:sg0.ms z=magOf z.natAbs:=rfl
  have hg:sg0.ng z=decide (z < 0):=ng_eq z
  have he:strEq (sg0.ms z) (ByteArray.mk #[])=decide (z.natAbs=0):=by rw [hm];exact magOf_nil _
  rw [hcall,he]
  unfold txt
  by_cases h0:z=0
  ·rw [dT (show z.natAbs=0 by omega),if_pos h0];rfl
  ·rw [dF (show ¬ z.natAbs=0 by omega),if_neg h0]
   have hn:z.natAbs≠0:=by omega
   obtain ⟨l1,l2⟩:=lead_mag hn
   have hlen:(bytesI (magOf z.natAbs)).length≤1000000:=by
    rw [bytesI_len]
    have:=size_ms z
    rw [hm] at this
    omega
   have hq:pre_oA (bytesI (sg0.ms z)) 0 (sg0.ng z) (sg0.ms z):= ⟨okb_bytes _,rfl,l1,l2,hlen⟩
   have hs:=(phi_oA_spec _ _ _ _ hq).2
   unfold post_oA at hs
   have hv:vI (bytesI (sg0.ms z))=z.natAbs:=by rw [vI_bytes];exact vS_magOf _
   rw [hv] at hs
   have hdl:dl z.natAbs≤9*(magOf z.natAbs).size:=by
    have:=dl_le (vs_pow (magOf z.natAbs))
    rwa [vS_magOf] at this
   rw [bytesI_len] at hlen
   have hpos:=dl_pos hn
   rw [cond_oA_eq _ _ _ _ hq,dT (show (sg0.ms z).size=(bytesI (sg0.ms z)).length from (bytesI_len _).symm)]
   generalize phi_oA (bytesI (sg0.ms z)) 0 (sg0.ng z) (sg0.ms z)=ρ at*
   rw [hs,dp_len,Nat.mul_one,show (dp (dl z.natAbs) z.natAbs).take (dl z.natAbs)=dp (dl z.natAbs) z.natAbs from List.take_of_length_le (by rw [dp_len];exact Nat.le_refl _)]
   have l3:(dp (dl z.natAbs) z.natAbs ++ [45]).length=dl z.natAbs+1:=by rw [List.length_append,dp_len];rfl
   have q1:pre_rv (dp (dl z.natAbs) z.natAbs ++ [45]) 0 (((dl z.natAbs+1:Nat):Int) - 1):= ⟨rfl,by rw [l3],by rw [l3];omega⟩
   have q2:pre_rv (dp (dl z.natAbs) z.natAbs) 0 (((dl z.natAbs:Nat):Int) - 1):= ⟨rfl,by rw [dp_len],by rw [dp_len];omega⟩
   have s1:=(phi_rv_spec _ _ _ q1).2
   have s2:=(phi_rv_spec _ _ _ q2).2
   unfold post_rv at s1 s2
   rw [cond_rv_eq _ _ _ q1,cond_rv_eq _ _ _ q2,s1,s2,hg,room5 (dl z.natAbs+1) (by omega),i64T (z:=((dl z.natAbs+1:Nat):Int) - 1) (by omega),i64T (z:=((dl z.natAbs:Nat):Int) - 1) (by omega),List.length_reverse,List.length_reverse,l3,dp_len,dT (Nat.le_refl (dl z.natAbs)),dT (rfl:dl z.natAbs+1=dl z.natAbs+1),dT (rfl:dl z.natAbs=dl z.natAbs),Nat.mul_one,Nat.mul_one,List.drop_zero,List.drop_zero,Nat.zero_add,Nat.zero_add,dT (Nat.le_refl (dl z.natAbs)),dT (Nat.le_refl (dl z.natAbs+1))]
   have t1:((dp (dl z.natAbs) z.natAbs ++ [45]).reverse).take (dl z.natAbs+1)= [45] ++ (dp (dl z.natAbs) z.natAbs).reverse:=by
    rw [List.take_of_length_le (by rw [List.length_reverse,l3];exact Nat.le_refl _),List.reverse_append];rfl
   have t2:((dp (dl z.natAbs) z.natAbs).reverse).take (dl z.natAbs)= [] ++ (dp (dl z.natAbs) z.natAbs).reverse:=by
    rw [List.take_of_length_le (by rw [List.length_reverse,dp_len];exact Nat.le_refl _)];rfl
   rw [t1,t2]
   by_cases hz:z < 0
   ·rw [dT hz,if_pos hz];rfl
   ·rw [dF hz,if_neg hz];rfl
 ·cases h
end
end Go.Proofs.YtibaendebbicjaaGreat.L
