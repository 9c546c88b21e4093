import Derived.Test.YtdnmkehncpfnnaaGreatZNA
import Derived.Test.YtdnmkehncpfnnaaGreatZMD
set_option linter.unusedVariables false
set_option linter.unusedSimpArgs false
namespace Go.Proofs.YtdnmkehncpfnnaaGreat.L
open Go Go.V Go.RowKit Go.Proofs.YtdnmkehncpfnnaaGreat.Sp Go.Proofs.YtdnmkehncpfnnaaGreat.F Go.Proofs.YtdnmkehncpfnnaaGreatW.PrintWords
open Go.Proofs (Tryz.prog)
noncomputable section
abbrev p_rbits:List Bool:= [false,true,false,true,true,true,true]
def sh_rbits (n:Int) (v:Int):List AV:=slots 25 [(4, .val (.int .i64 n)),(5, .val (.int .i64 v))]
def hp_rbits (n:Int) (v:Int):Hp:= []
theorem body_rbits:subC Tryz.prog 133 p_rbits=some (.loop (lb 133 p_rbits)):=by kernel_rfl
theorem code_rbits:subC Tryz.prog 133 (false :: p_rbits)=some (lb 133 p_rbits):=by kernel_rfl
theorem round_rbits (n:Int) (v:Int):roundA Tryz.prog EL0 133 [4,5] (lb 133 p_rbits) (false :: p_rbits) (sh_rbits n v) (hp_rbits n v)=
  (bif decide ((0:Int) < v) then (bif inR IntKind.i64 (n+(1:Int)) then (bif inR IntKind.i64 (v.tdiv (2:Int)) then some (.normal,slots 25 [(4,(.val (.int .i64 (n+(1:Int))))),(5,(.val (.int .i64 (v.tdiv (2:Int)))))], []) else none) else none) else some ((.exit 0),slots 25 [(4,(.val (.int .i64 n))),(5,(.val (.int .i64 v)))], [])):=by kernel_rfl
theorem step_rbits {n:Int} {v:Int} {e:Ex} {T:List AV} {H:Hp} (h:roundA Tryz.prog EL0 133 [4,5] (lb 133 p_rbits) (false :: p_rbits) (sh_rbits n v) (hp_rbits n v)=some (e,T,H)):V.Ends Tryz.prog false 0 0 (lb 133 p_rbits) (sh_rbits n v) (hp_rbits n v) e T H:=
 round_ends (meets_none _) loops_none mixed code_rbits h
def pre_rbits (n v:Int):Prop:=0≤n∧n≤281474976710656∧0≤v∧v < 256
def post_rbits (n v:Int) (r:Int×Int):Prop:=r.1=n+(blen v.toNat:Int)
theorem len_half {v l:Nat} (hv:v≠0) (h:IsLen (v / 2) l):IsLen v (l+1):=by
 refine ⟨?_,fun _=> ?_⟩
 ·have:=h.1
  rw [Nat.pow_succ];omega
 ·rw [Nat.add_sub_cancel]
  rcases Nat.eq_zero_or_pos l with e | e
  ·rw [e];show 1≤v;omega
  ·have h2:=h.2 e
   have h3:2 ^ l=2 ^ (l - 1)*2:=by rw [← Nat.pow_succ,Nat.succ_eq_add_one,Nat.sub_add_cancel e]
   omega
theorem blen_half {v:Nat} (hv:v≠0):blen v=blen (v / 2)+1:=(blen_is v).uniq (len_half hv (blen_is (v / 2)))
theorem rbits_go (k:Nat):∀ n v:Nat,v=k→v < 256→n+v≤281474976710912→∃ r:Int×Int,LoopTo Tryz.prog (lb 133 p_rbits) (sh_rbits n v) (hp_rbits n v) (.exit 0) (sh_rbits r.1 r.2) (hp_rbits r.1 r.2)∧r.1=(n:Int)+(blen v:Int):=by
 induction k using Nat.strongRecOn with
 | _ k ih=>
  intro n v hv hb hn
  by_cases h0:v=0
  ·subst h0
   refine ⟨((n:Int),((0:Nat):Int)), .last (step_rbits ?_) (by intro h;cases h), ?_⟩
   ·rw [round_rbits,dF (show ¬ (0:Int) < ((0:Nat):Int) by decide)];rfl
   ·rw [show blen 0=0 from (blen_is 0).uniq ⟨by decide,fun h=>absurd h (by decide)⟩];show (n:Int)=n+0;omega
  ·obtain ⟨r,h1,h2⟩:=ih (v / 2) (by omega) (n+1) (v / 2) rfl (by omega) (by omega)
   refine ⟨r, .more (step_rbits ?_) h1,by rw [h2,blen_half h0];omega⟩
   rw [round_rbits,show (v:Int).tdiv 2=((v / 2:Nat):Int) from rfl,dT (show (0:Int) < (v:Int) by omega),i64T (show -9223372036854775808≤(n:Int)+1∧(n:Int)+1≤9223372036854775807 by omega),i64L (v / 2) (by omega)]
   rfl
theorem loop_rbits (n v:Int) (h:pre_rbits n v):∃ r:Int×Int,LoopTo Tryz.prog (lb 133 p_rbits) (sh_rbits n v) (hp_rbits n v) (.exit 0) (sh_rbits r.1 r.2) (hp_rbits r.1 r.2)∧post_rbits n v r:=by
 obtain ⟨h1,h2,h3,h4⟩:=h
 obtain ⟨n,rfl⟩:=Int.eq_ofNat_of_zero_le h1
 obtain ⟨v,rfl⟩:=Int.eq_ofNat_of_zero_le h3
 exact rbits_go v n v rfl (by omega) (by omega)
def told_rbits (κ:Int→Int→Bool) (φ:Int→Int→Int×Int) (T:List AV) (H:Hp):Option (Bool×Ex×List AV×Hp):=
 match lget T 4,lget T 5,H with
 | .val (.int .i64 n), .val (.int .i64 v), []=>bif T.length==25 then some (κ n v, .exit 0,sh_rbits ((φ n v).1) ((φ n v).2),hp_rbits ((φ n v).1) ((φ n v).2)) else none
 | _,_,_=>none
abbrev KT_rbits:Type:=Int→Int→Bool
abbrev FT_rbits:Type:=Int→Int→Int×Int
def LL_rbits (κ:KT_rbits) (φ:FT_rbits) (L:LTab):LTab:=addLn 0 133 p_rbits [4,5] (told_rbits κ φ) L
def phi_rbits (n:Int) (v:Int):Int×Int:=Classical.epsilon fun ρ=>LoopTo Tryz.prog (lb 133 p_rbits) (sh_rbits n v) (hp_rbits n v) (.exit 0) (sh_rbits (ρ.1) (ρ.2)) (hp_rbits (ρ.1) (ρ.2))∧post_rbits n v ρ
theorem phi_rbits_spec (n:Int) (v:Int) (h:pre_rbits n v):LoopTo Tryz.prog (lb 133 p_rbits) (sh_rbits n v) (hp_rbits n v) (.exit 0) (sh_rbits ((phi_rbits n v).1) ((phi_rbits n v).2)) (hp_rbits ((phi_rbits n v).1) ((phi_rbits n v).2))∧post_rbits n v (phi_rbits n v):=Classical.epsilon_spec (loop_rbits n v h)
def cond_rbits (n:Int) (v:Int):Bool:= @decide (pre_rbits n v) (Classical.propDecidable _)
theorem cond_rbits_eq (n:Int) (v:Int) (h:pre_rbits n v):cond_rbits n v=true:= @decide_eq_true _ (Classical.propDecidable _) h
theorem told_rbits_ok (T:List AV) (H:Hp) (e:Ex) (T1:List AV) (H1:Hp) (h:told_rbits cond_rbits phi_rbits T H=some (true,e,T1,H1)):V.Ends Tryz.prog false 0 0 (.loop (lb 133 p_rbits)) T H e T1 H1:=by
 unfold told_rbits at h
 split at h
 ·rename_i n v h4 h5
  rw [Bool.cond_eq_ite] at h
  split at h
  ·rename_i hlen
   rw [beq_iff_eq] at hlen
   simp only [Option.some.injEq,Prod.mk.injEq,Bool.and_eq_true,decide_eq_true_eq] at h
   obtain ⟨k1,rfl,rfl,rfl⟩:=h
   have kc:= @of_decide_eq_true _ (Classical.propDecidable _) k1
   refine Ends.pre (phi_rbits_spec n v kc).1.ends (fun α B w D ys hr=>slots_rel hlen (fun p hp y hy=> ?_) hr)
   simp only [List.mem_cons,List.not_mem_nil,or_false] at hp
   rcases hp with rfl | rfl
   ·rw [h4] at hy;exact hy
   ·rw [h5] at hy;exact hy
  ·cases h
 ·cases h
theorem LL_rbits_ok {L:LTab} (h:LOk Tryz.prog L):LOk Tryz.prog (LL_rbits cond_rbits phi_rbits L):=h.add2n body_rbits told_rbits_ok
theorem rbits_call (S:Sg) (κ:KT_rbits) (φ:FT_rbits) (b:Bool) (s:ByteArray):callA Tryz.prog ⟨addC 156 (tStrip S) noC,Kall,LL_rbits κ φ noL⟩ 10 10 133 [.agg [.val (.bool b), .val (.string s)]]=
  (bif strEq (S.mg (S.vs s)) (ByteArray.mk #[]) then some (.val (.int .i64 0)) else (bif inR IntKind.i64 ((↑(S.mg (S.vs s)).size:Int) - (1:Int)) then (bif inR IntKind.i64 ((8:Int)*((↑(S.mg (S.vs s)).size:Int) - (1:Int))) then (bif decide ((0:Int) < (↑(S.mg (S.vs s)).size:Int)) then (bif inR IntKind.i64 (byteAt (S.mg (S.vs s)) (0:Nat)) then (bif κ ((8:Int)*((↑(S.mg (S.vs s)).size:Int) - (1:Int))) (byteAt (S.mg (S.vs s)) (0:Nat)) then some (.val (.int .i64 ((φ ((8:Int)*((↑(S.mg (S.vs s)).size:Int) - (1:Int))) (byteAt (S.mg (S.vs s)) (0:Nat))).fst))) else none) else none) else none) else none) else none)):=by kernel_rfl
theorem blen_sh {V k:Nat} (h:0 < V / 2 ^ k):blen V=k+blen (V / 2 ^ k):=by
 have hp:=Nat.two_pow_pos k
 obtain ⟨h1,h2⟩:=blen_is (V / 2 ^ k)
 have hb:0 < blen (V / 2 ^ k):=by
  rcases Nat.eq_zero_or_pos (blen (V / 2 ^ k)) with e | e
  ·rw [e] at h1
   have h9:V / 2 ^ k < 1:=h1
   omega
  ·exact e
 refine (blen_is V).uniq ⟨?_,fun _=> ?_⟩
 ·rw [Nat.div_lt_iff_lt_mul hp,← Nat.pow_add,Nat.add_comm] at h1
  exact h1
 ·have h3:=h2 hb
  rw [Nat.le_div_iff_mul_le hp,← Nat.pow_add] at h3
  rw [show k+blen (V / 2 ^ k) - 1=blen (V / 2 ^ k) - 1+k by omega]
  exact h3
theorem eRBits:Entry Tryz.prog 133 (tBits sg0):=by
 refine entry_of (E:= ⟨addC 156 (tStrip sg0) noC,Kall,LL_rbits cond_rbits phi_rbits noL⟩) (u:=10) (d:=10) ((meets_none _).add eRTrim) (LL_rbits_ok LOk.none).ok mixed (by kernel_rfl) (fun args r h=> ?_)
 unfold tBits at h
 split at h
 ·rename_i b s
  simp only [Option.some.injEq,Prod.mk.injEq] at h
  obtain ⟨h1,rfl⟩:=h
  have hcall:=rbits_call sg0 cond_rbits phi_rbits b s
  have hbs:=ok_out h1
  have hm:strEq (sg0.mg (sg0.vs s)) (ByteArray.mk #[])=decide (sg0.vs s=0):=magOf_nil (vS s)
  have hsz:(sg0.mg (sg0.vs s)).size=bs (sg0.vs s):=size_magOf _
  rw [hm,hsz] at hcall
  rw [hcall]
  show _=some (AV.val (.int .i64 ((blen (sg0.vs s):Nat):Int)))
  generalize hV:sg0.vs s=V at*
  by_cases h0:V=0
  ·rw [dT h0,h0,show blen 0=0 from (blen_is 0).uniq ⟨by decide,fun h=>absurd h (by decide)⟩]
   rfl
  ·have hL:0 < bs V:=by
    rcases Nat.eq_zero_or_pos (bs V) with e | e
    ·have:=bs_lt V;rw [e] at this;omega
    ·exact e
   obtain ⟨c,hc⟩:∃ c,bs V=c+1:= ⟨bs V - 1,by omega⟩
   have hd:=digit_at (sg0.mg V) c (by rw [hsz];omega)
   have hvm:vS (sg0.mg V)=V:=vS_magOf V
   rw [hsz,hvm,hc,Nat.sub_self] at hd
   have hlt:=bs_lt V
   rw [hc] at hlt
   have hq:V / 256 ^ c < 256:=by
    rw [Nat.div_lt_iff_lt_mul (Nat.pow_pos (by decide)),Nat.mul_comm,← Nat.pow_succ];exact hlt
   have hq0:0 < V / 256 ^ c:=by
    rcases Nat.lt_or_ge V (256 ^ c) with e | e
    ·have:=bs_le (n:=V) (m:=c) e;omega
    ·exact Nat.div_pos e (Nat.pow_pos (by decide))
   have hbl:blen V=8*c+blen (V / 256 ^ c):=by
    have e:(256:Nat) ^ c=2 ^ (8*c):=by rw [Nat.pow_mul]
    rw [e] at hq0 ⊢
    exact blen_sh hq0
   rw [Nat.mod_eq_of_lt hq] at hd
   rw [dF h0,hd,hbl,hc,show (8:Int)*(((c+1:Nat):Int) - 1)=((8*c:Nat):Int) by omega,show ((c+1:Nat):Int) - 1=(c:Int) by omega]
   generalize V / 256 ^ c=q at*
   have hp:pre_rbits ((8*c:Nat):Int) (q:Int):= ⟨by omega,by omega,by omega,by omega⟩
   obtain ⟨_,hpost⟩:=phi_rbits_spec _ _ hp
   unfold post_rbits at hpost
   rw [Int.toNat_natCast] at hpost
   rw [cond_rbits_eq _ _ hp,hpost,i64L c (by omega),i64L (8*c) (by omega),i64L q (by omega),dT (show (0:Int) < ((c+1:Nat):Int) by omega),Int.natCast_add (8*c) (blen q)]
   rfl
 ·cases h
end
end Go.Proofs.YtdnmkehncpfnnaaGreat.L
namespace Go.Proofs.YtdnmkehncpfnnaaGreat.L
open Go Go.V Go.RowKit Go.Proofs.YtdnmkehncpfnnaaGreat.Sp Go.Proofs.YtdnmkehncpfnnaaGreat.F Go.Proofs.YtdnmkehncpfnnaaGreatW.PrintWords
open Go.Proofs (Tryz.prog)
noncomputable section
theorem power_call (k:Int):letI q_1:=(k.tdiv (8:Int)+(1:Int));letI q_2:=((List.replicate q_1.toNat (0:Int)).set (0:Nat) (IntKind.u8.wrap ((1:Int)*(2:Int) ^ min (IntKind.u64.wrap (k.tmod (8:Int))).toNat (8:Nat))));
  (callA Tryz.prog E000 10 10 134 [.val (.int .i64 k)]=(bif inR IntKind.i64 (k.tdiv (8:Int)) then (bif inR IntKind.i64 q_1 then (bif decide ((0:Int)≤k.tdiv (8:Int)+(1:Int))&&decide (k.tdiv (8:Int)+(1:Int)≤k.tdiv (8:Int)+(1:Int))&&decide ((1:Int)*q_1≤(281474976710656:Int))&&decide (k.tdiv (8:Int)+(1:Int)≤(9223372036854775807:Int)) then (bif decide (IntKind.u64.wrap (k.tmod (8:Int)) < (0:Int)) then none else (bif decide ((0:Int) < (↑q_1.toNat:Int)) then (bif decide ((0:Nat) < (List.replicate q_1.toNat (0:Int)).length) then (bif decide ((0:Nat)+q_1.toNat*(1:Nat)≤q_2.length) then some (.agg [(.val (.bool false)),(.val (.string (ofBytes (List.take (q_1.toNat*(1:Nat)) (List.drop (0:Nat) q_2)))))]) else none) else none) else none)) else none) else none) else none)):=by kernel_rfl
def tPower (S:Sg) (args:List AV):Option (Bool×AV):=match args with | [.val (.int .i64 k)]=>some (decide (0≤k)&&decide (k≤281474976710656),S.int ((2 ^ k.toNat:Nat):Int)) | _=>none
theorem vY_zeros (n:Nat):vY (List.replicate n (0:Int))=0:=by
 induction n with
 | zero=>rfl
 | succ n ih=>rw [List.replicate_succ,vY_consI,ih];show 0*_+0=0;omega
theorem power_bytes (n:Nat):ofBytes (((2 ^ (n % 8):Nat):Int) :: List.replicate (n / 8) 0)=magOf (2 ^ n):=by
 have hlt:2 ^ (n % 8) < 256:=Nat.lt_of_le_of_lt (Nat.pow_le_pow_right (by decide) (show n % 8≤7 by omega)) (by decide)
 have hp:=Nat.two_pow_pos (n % 8)
 have hv:vS (ofBytes (((2 ^ (n % 8):Nat):Int) :: List.replicate (n / 8) 0))=2 ^ n:=by
  rw [vS_of,vY_consI,vY_zeros,u8nat hlt,List.length_replicate,Nat.add_zero,show (256:Nat)=2 ^ 8 from rfl,← Nat.pow_mul,← Nat.pow_add]
  congr 1
  omega
 have h:=magOf_of_lead (ofBytes (((2 ^ (n % 8):Nat):Int) :: List.replicate (n / 8) 0)) (by
  show ¬ UInt8.ofNat (((2 ^ (n % 8):Nat):Int)).toNat=0
  intro e
  have:=congrArg UInt8.toNat e
  rw [u8nat hlt] at this
  have h0:(0:UInt8).toNat=0:=rfl
  omega)
 rw [hv] at h
 exact h.symm
theorem ePower:Entry Tryz.prog 134 (tPower sg0):=by
 refine entry_of (E:=E000) (u:=10) (d:=10) (meets_none _) loops_none mixed (by kernel_rfl) (fun args r h=> ?_)
 unfold tPower at h
 split at h
 ·rename_i k
  simp only [Option.some.injEq,Prod.mk.injEq,Bool.and_eq_true,decide_eq_true_eq] at h
  obtain ⟨⟨h1,h2⟩,rfl⟩:=h
  obtain ⟨n,rfl⟩:=Int.eq_ofNat_of_zero_le h1
  have hcall:=power_call (n:Int)
  have e1:(n:Int).tdiv 8=((n / 8:Nat):Int):=rfl
  have e2:(n:Int).tmod 8=((n % 8:Nat):Int):=rfl
  have e3:((n / 8:Nat):Int)+1=((n / 8+1:Nat):Int):=by omega
  have hlt:2 ^ (n % 8) < 256:=Nat.lt_of_le_of_lt (Nat.pow_le_pow_right (by decide) (show n % 8≤7 by omega)) (by decide)
  have e4:IntKind.u8.wrap (1*2 ^ min (n % 8) 8)=((2 ^ (n % 8):Nat):Int):=by
   rw [Int.one_mul,Nat.min_eq_left (by omega),show ((2:Int) ^ (n % 8))=((2 ^ (n % 8):Nat):Int) from (Int.natCast_pow 2 (n % 8)).symm,u8w,Nat.mod_eq_of_lt hlt]
  have e5:(List.replicate (n / 8+1) (0:Int)).set 0 ((2 ^ (n % 8):Nat):Int)=((2 ^ (n % 8):Nat):Int) :: List.replicate (n / 8) 0:=by rw [List.replicate_succ,List.set_cons_zero]
  rw [e1,e2,e3,u64n (a:=n % 8) (by omega)] at hcall
  simp only [toNatN] at hcall
  rw [e4,e5,i64L (n / 8) (by omega),i64L (n / 8+1) (by omega),dT (show (0:Int)≤((n / 8+1:Nat):Int) by omega),dT (show ((n / 8+1:Nat):Int)≤((n / 8+1:Nat):Int) by omega),dT (show (1:Int)*((n / 8+1:Nat):Int)≤281474976710656 by omega),dT (show ((n / 8+1:Nat):Int)≤9223372036854775807 by omega),dF (show ¬ ((n % 8:Nat):Int) < 0 by omega),dT (show (0:Int) < ((n / 8+1:Nat):Int) by omega),dT (show 0 < (List.replicate (n / 8+1) (0:Int)).length by rw [List.length_replicate];omega),dT (show 0+(n / 8+1)*1≤(((2 ^ (n % 8):Nat):Int) :: List.replicate (n / 8) 0).length by rw [List.length_cons,List.length_replicate];omega),List.drop_zero,List.take_of_length_le (by rw [List.length_cons,List.length_replicate];omega),power_bytes] at hcall
  rw [hcall,Int.toNat_natCast,int_nn (Int.natCast_nonneg _),Int.natAbs_natCast]
  rfl
 ·cases h
end
end Go.Proofs.YtdnmkehncpfnnaaGreat.L
namespace Go.Proofs.YtdnmkehncpfnnaaGreat.L
open Go Go.V Go.RowKit Go.Proofs.YtdnmkehncpfnnaaGreat.Sp Go.Proofs.YtdnmkehncpfnnaaGreat.F Go.Proofs.YtdnmkehncpfnnaaGreatW.PrintWords
open Go.Proofs (Tryz.prog)
noncomputable section
def CRR (S:Sg):FuncId→List AV→Option (Bool×AV):=addC 132 (tCanon S) (addC 134 (tPower S) (addC 93 (tAdd S) (addC 102 (tMul S) (addC 92 (tCompare S) (addC 133 (tBits S) noC)))))
theorem CRR_ok:Meets Tryz.prog (CRR sg0):=((((((meets_none _).add eRBits).add eRCompare).add eRMul).add eRAdd).add ePower).add eCanon
abbrev p_rr:List Bool:= [false,true,false,true,true,true,true]
def sh_rr (k:Int) (b:Bool) (s:ByteArray) (rb:Bool) (rs:ByteArray) (qb:Bool) (qs:ByteArray):List AV:=slots 39 [(1, .ptr 0 0),(2, .ptr 1 0),(5, .ptr 2 0),(6, .val (.int .i64 k))]
def hp_rr (k:Int) (b:Bool) (s:ByteArray) (rb:Bool) (rs:ByteArray) (qb:Bool) (qs:ByteArray):Hp:= [.row (.cells [.val (.bool b), .val (.string s)]) 68 .live, .row (.cells [.val (.bool rb), .val (.string rs)]) 68 .live, .row (.cells [.val (.bool qb), .val (.string qs)]) 68 .live]
theorem body_rr:subC Tryz.prog 91 p_rr=some (.loop (lb 91 p_rr)):=by kernel_rfl
theorem code_rr:subC Tryz.prog 91 (false :: p_rr)=some (lb 91 p_rr):=by kernel_rfl
theorem round_rr (S:Sg) (k:Int) (b:Bool) (s:ByteArray) (rb:Bool) (rs:ByteArray) (qb:Bool) (qs:ByteArray):letI q_1:=(S.val qb qs+S.val (S.ng (↑((2:Nat) ^ k.toNat):Int)) (S.ms (↑((2:Nat) ^ k.toNat):Int)));letI q_2:=(S.val (S.ng q_1) (S.ms q_1)*S.val (S.ng q_1) (S.ms q_1));
  (roundA Tryz.prog ⟨CRR S,Kall,noL⟩ 91 [1,2,5,6] (lb 91 p_rr) (false :: p_rr) (sh_rr k b s rb rs qb qs) (hp_rr k b s rb rs qb qs)=(bif decide ((0:Int)≤k) then (bif decide ((0:Int)≤k)&&decide (k≤(281474976710656:Int)) then (bif S.ok qs&&S.ok (S.ms (↑((2:Nat) ^ k.toNat):Int)) then (bif S.ok (S.ms q_1)&&S.ok (S.ms q_1) then (bif S.ok (S.ms q_2)&&S.ok s then (bif decide (S.cmz (S.val (S.ng q_2) (S.ms q_2)) (S.val b s)≤(0:Int)) then (bif inR IntKind.i64 (k - (1:Int)) then some (.normal,slots 39 [(1,(.ptr 0 0)),(2,(.ptr 1 0)),(5,(.ptr 2 0)),(6,(.val (.int .i64 (k - (1:Int)))))], [(.row (.cells [(.val (.bool b)),(.val (.string s))]) 68 .live),(.row (.cells [(.val (.bool rb)),(.val (.string rs))]) 68 .live),(.row (.cells [(.val (.bool (S.ng q_1))),(.val (.string (S.ms q_1)))]) 68 .live)]) else none) else (bif inR IntKind.i64 (k - (1:Int)) then some (.normal,slots 39 [(1,(.ptr 0 0)),(2,(.ptr 1 0)),(5,(.ptr 2 0)),(6,(.val (.int .i64 (k - (1:Int)))))], [(.row (.cells [(.val (.bool b)),(.val (.string s))]) 68 .live),(.row (.cells [(.val (.bool rb)),(.val (.string rs))]) 68 .live),(.row (.cells [(.val (.bool qb)),(.val (.string qs))]) 68 .live)]) else none)) else none) else none) else none) else none) else some ((.exit 0),slots 39 [(1,(.ptr 0 0)),(2,(.ptr 1 0)),(5,(.ptr 2 0)),(6,(.val (.int .i64 k)))], [(.row (.cells [(.val (.bool b)),(.val (.string s))]) 68 .live),(.row (.cells [(.val (.bool rb)),(.val (.string rs))]) 68 .live),(.row (.cells [(.val (.bool qb)),(.val (.string qs))]) 68 .live)]))):=by kernel_rfl
theorem step_rr {k:Int} {b:Bool} {s:ByteArray} {rb:Bool} {rs:ByteArray} {qb:Bool} {qs:ByteArray} {e:Ex} {T:List AV} {H:Hp} (h:roundA Tryz.prog ⟨CRR sg0,Kall,noL⟩ 91 [1,2,5,6] (lb 91 p_rr) (false :: p_rr) (sh_rr k b s rb rs qb qs) (hp_rr k b s rb rs qb qs)=some (e,T,H)):V.Ends Tryz.prog false 0 0 (lb 91 p_rr) (sh_rr k b s rb rs qb qs) (hp_rr k b s rb rs qb qs) e T H:=
 round_ends CRR_ok loops_none mixed code_rr h
theorem cz_leN (x y:Int):sg0.cmz x y≤0↔x≤y:=by
 show cmpZ x y≤0↔_
 unfold cmpZ
 split <;> (try split) <;> omega
theorem bs_two2 (d:Nat):bs (2 ^ d)≤d / 8+1:=by
 refine bs_le ?_
 rw [show (256:Nat)=2 ^ 8 from rfl,← Nat.pow_mul]
 exact Nat.pow_lt_pow_right (by decide) (by omega)
theorem rr_go (b:Bool) (s:ByteArray) (rb:Bool) (rs:ByteArray) (a:Nat) (ha:sg0.val b s=(a:Int)) (hs:s.size≤68719476736) (d:Nat):∀ Q:Nat,d≤549755813888→Q*Q≤a→a < (Q+2 ^ d)*(Q+2 ^ d)→
  ∃ R:Nat,LoopTo Tryz.prog (lb 91 p_rr) (sh_rr ((d:Int) - 1) b s rb rs (sg0.ng Q) (sg0.ms Q)) (hp_rr ((d:Int) - 1) b s rb rs (sg0.ng Q) (sg0.ms Q)) (.exit 0) (sh_rr (-1) b s rb rs (sg0.ng R) (sg0.ms R)) (hp_rr (-1) b s rb rs (sg0.ng R) (sg0.ms R))∧R*R≤a∧a < (R+1)*(R+1):=by
 induction d with
 | zero=>
  intro Q hd h1 h2
  refine ⟨Q, .last (step_rr ?_) (by intro h;cases h),h1,h2⟩
  rw [round_rr,dF (show ¬ (0:Int)≤((0:Nat):Int) - 1 by decide)];rfl
 | succ d ih=>
  intro Q hd h1 h2
  have hba:bs a≤s.size:=by have:=bs_val b s;rw [ha,Int.natAbs_natCast] at this;exact this
  have hQ:Q≤a:=by
   rcases Nat.eq_zero_or_pos Q with e | e
   ·omega
   ·exact Nat.le_trans (Nat.le_mul_of_pos_left Q e) h1
  have b1:=bs_mono hQ
  have b2:=bs_two2 d
  have b3:=bs_add Q (2 ^ d)
  have b4:=bs_mul (Q+2 ^ d) (Q+2 ^ d)
  have hr:=round_rr sg0 (d:Int) b s rb rs (sg0.ng Q) (sg0.ms Q)
  have e1:(Q:Int)+((2 ^ d:Nat):Int)=((Q+2 ^ d:Nat):Int):=(Int.natCast_add _ _).symm
  have e2:((Q+2 ^ d:Nat):Int)*((Q+2 ^ d:Nat):Int)=(((Q+2 ^ d)*(Q+2 ^ d):Nat):Int):=(Int.natCast_mul _ _).symm
  rw [Int.toNat_natCast] at hr
  simp only [val_ms,ha,e1,e2] at hr
  rw [dT (show (0:Int)≤(d:Int) by omega),dT (show (d:Int)≤281474976710656 by omega),ok_ms (z:=(Q:Int)) (by rw [Int.natAbs_natCast];omega),ok_ms (z:=((2 ^ d:Nat):Int)) (by rw [Int.natAbs_natCast];omega),ok_ms (z:=((Q+2 ^ d:Nat):Int)) (by rw [Int.natAbs_natCast];omega),ok_ms (z:=(((Q+2 ^ d)*(Q+2 ^ d):Nat):Int)) (by rw [Int.natAbs_natCast];omega),show sg0.ok s=true from decide_eq_true (by omega),i64T (show -9223372036854775808≤(d:Int) - 1∧(d:Int) - 1≤9223372036854775807 by omega)] at hr
  by_cases hc:(Q+2 ^ d)*(Q+2 ^ d)≤a
  ·obtain ⟨R,k1,k2⟩:=ih (Q+2 ^ d) (by omega) hc (by rw [Nat.add_assoc,← Nat.two_mul,Nat.mul_comm 2,← Nat.pow_succ];exact h2)
   refine ⟨R, .more (step_rr ?_) k1,k2⟩
   rw [show ((d+1:Nat):Int) - 1=(d:Int) by omega,hr,dT ((cz_leN _ _).2 (Int.ofNat_le.2 hc))]
   rfl
  ·obtain ⟨R,k1,k2⟩:=ih Q (by omega) h1 (by omega)
   refine ⟨R, .more (step_rr ?_) k1,k2⟩
   rw [show ((d+1:Nat):Int) - 1=(d:Int) by omega,hr,dF (fun h=>hc (Int.ofNat_le.1 ((cz_leN _ _).1 h)))]
   rfl
def pre_rr (k:Int) (b:Bool) (s:ByteArray) (rb:Bool) (rs:ByteArray) (qb:Bool) (qs:ByteArray):Prop:=∃ a d:Nat,sg0.val b s=(a:Int)∧s.size≤68719476736∧d≤549755813888∧k=(d:Int) - 1∧qb=sg0.ng 0∧qs=sg0.ms 0∧a < 2 ^ d*2 ^ d
def post_rr (k:Int) (b:Bool) (s:ByteArray) (rb:Bool) (rs:ByteArray) (qb:Bool) (qs:ByteArray) (r:Int×Bool×ByteArray):Prop:=r.2.1=sg0.ng (rootN (sg0.val b s).natAbs:Nat)∧r.2.2=sg0.ms (rootN (sg0.val b s).natAbs:Nat)
theorem loop_rr (k:Int) (b:Bool) (s:ByteArray) (rb:Bool) (rs:ByteArray) (qb:Bool) (qs:ByteArray) (h:pre_rr k b s rb rs qb qs):∃ r:Int×Bool×ByteArray,LoopTo Tryz.prog (lb 91 p_rr) (sh_rr k b s rb rs qb qs) (hp_rr k b s rb rs qb qs) (.exit 0) (sh_rr r.1 b s rb rs r.2.1 r.2.2) (hp_rr r.1 b s rb rs r.2.1 r.2.2)∧post_rr k b s rb rs qb qs r:=by
 obtain ⟨a,d,h1,h2,h3,rfl,rfl,rfl,h4⟩:=h
 obtain ⟨R,k1,k2,k3⟩:=rr_go b s rb rs a h1 h2 d 0 h3 (Nat.zero_le _) (by rw [Nat.zero_add];exact h4)
 have hR:R=rootN a:=root_uniq k2 k3 (rootN_is a).1 (rootN_is a).2
 refine ⟨(-1,sg0.ng R,sg0.ms R),k1, ?_⟩
 unfold post_rr
 rw [h1,Int.natAbs_natCast,hR]
 exact ⟨rfl,rfl⟩
def told_rr (κ:Int→Bool→ByteArray→Bool→ByteArray→Bool→ByteArray→Bool) (φ:Int→Bool→ByteArray→Bool→ByteArray→Bool→ByteArray→Int×Bool×ByteArray) (T:List AV) (H:Hp):Option (Bool×Ex×List AV×Hp):=
 match lget T 1,lget T 2,lget T 5,lget T 6,H with
 | .ptr 0 0, .ptr 1 0, .ptr 2 0, .val (.int .i64 k), [.row (.cells [.val (.bool b), .val (.string s)]) 68 .live, .row (.cells [.val (.bool rb), .val (.string rs)]) 68 .live, .row (.cells [.val (.bool qb), .val (.string qs)]) 68 .live]=>bif T.length==39 then some (κ k b s rb rs qb qs, .exit 0,sh_rr ((φ k b s rb rs qb qs).1) b s rb rs ((φ k b s rb rs qb qs).2.1) ((φ k b s rb rs qb qs).2.2),hp_rr ((φ k b s rb rs qb qs).1) b s rb rs ((φ k b s rb rs qb qs).2.1) ((φ k b s rb rs qb qs).2.2)) else none
 | _,_,_,_,_=>none
abbrev KT_rr:Type:=Int→Bool→ByteArray→Bool→ByteArray→Bool→ByteArray→Bool
abbrev FT_rr:Type:=Int→Bool→ByteArray→Bool→ByteArray→Bool→ByteArray→Int×Bool×ByteArray
def LL_rr (κ:KT_rr) (φ:FT_rr) (L:LTab):LTab:=addLn 0 91 p_rr [1,2,5,6] (told_rr κ φ) L
def phi_rr (k:Int) (b:Bool) (s:ByteArray) (rb:Bool) (rs:ByteArray) (qb:Bool) (qs:ByteArray):Int×Bool×ByteArray:=Classical.epsilon fun ρ=>LoopTo Tryz.prog (lb 91 p_rr) (sh_rr k b s rb rs qb qs) (hp_rr k b s rb rs qb qs) (.exit 0) (sh_rr (ρ.1) b s rb rs (ρ.2.1) (ρ.2.2)) (hp_rr (ρ.1) b s rb rs (ρ.2.1) (ρ.2.2))∧post_rr k b s rb rs qb qs ρ
theorem phi_rr_spec (k:Int) (b:Bool) (s:ByteArray) (rb:Bool) (rs:ByteArray) (qb:Bool) (qs:ByteArray) (h:pre_rr k b s rb rs qb qs):LoopTo Tryz.prog (lb 91 p_rr) (sh_rr k b s rb rs qb qs) (hp_rr k b s rb rs qb qs) (.exit 0) (sh_rr ((phi_rr k b s rb rs qb qs).1) b s rb rs ((phi_rr k b s rb rs qb qs).2.1) ((phi_rr k b s rb rs qb qs).2.2)) (hp_rr ((phi_rr k b s rb rs qb qs).1) b s rb rs ((phi_rr k b s rb rs qb qs).2.1) ((phi_rr k b s rb rs qb qs).2.2))∧post_rr k b s rb rs qb qs (phi_rr k b s rb rs qb qs):=Classical.epsilon_spec (loop_rr k b s rb rs qb qs h)
def cond_rr (k:Int) (b:Bool) (s:ByteArray) (rb:Bool) (rs:ByteArray) (qb:Bool) (qs:ByteArray):Bool:= @decide (pre_rr k b s rb rs qb qs) (Classical.propDecidable _)
theorem cond_rr_eq (k:Int) (b:Bool) (s:ByteArray) (rb:Bool) (rs:ByteArray) (qb:Bool) (qs:ByteArray) (h:pre_rr k b s rb rs qb qs):cond_rr k b s rb rs qb qs=true:= @decide_eq_true _ (Classical.propDecidable _) h
theorem told_rr_ok (T:List AV) (H:Hp) (e:Ex) (T1:List AV) (H1:Hp) (h:told_rr cond_rr phi_rr T H=some (true,e,T1,H1)):V.Ends Tryz.prog false 0 0 (.loop (lb 91 p_rr)) T H e T1 H1:=by
 unfold told_rr at h
 split at h
 ·rename_i k b s rb rs qb qs h1 h2 h5 h6
  rw [Bool.cond_eq_ite] at h
  split at h
  ·rename_i hlen
   rw [beq_iff_eq] at hlen
   simp only [Option.some.injEq,Prod.mk.injEq,Bool.and_eq_true,decide_eq_true_eq] at h
   obtain ⟨k1,rfl,rfl,rfl⟩:=h
   have kc:= @of_decide_eq_true _ (Classical.propDecidable _) k1
   refine Ends.pre (phi_rr_spec k b s rb rs qb qs kc).1.ends (fun α B w D ys hr=>slots_rel hlen (fun p hp y hy=> ?_) hr)
   simp only [List.mem_cons,List.not_mem_nil,or_false] at hp
   rcases hp with rfl | rfl | rfl | rfl
   ·rw [h1] at hy;exact hy
   ·rw [h2] at hy;exact hy
   ·rw [h5] at hy;exact hy
   ·rw [h6] at hy;exact hy
  ·cases h
 ·cases h
theorem LL_rr_ok {L:LTab} (h:LOk Tryz.prog L):LOk Tryz.prog (LL_rr cond_rr phi_rr L):=h.add2n body_rr told_rr_ok
theorem rroot_call (S:Sg) (κ:KT_rr) (φ:FT_rr) (b:Bool) (s:ByteArray):letI q_3:=((↑(S.bl (S.vs (S.ms (S.val b s)))):Int)+(1:Int));letI q_1:=(φ (q_3.tdiv (2:Int)) (S.ng (S.val b s)) (S.ms (S.val b s)) false (ByteArray.mk #[]) false (ByteArray.mk #[]));letI q_2:=(S.val q_1.snd.fst q_1.snd.snd*S.val q_1.snd.fst q_1.snd.snd);
  (callA Tryz.prog ⟨CRR S,Kall,LL_rr κ φ noL⟩ 10 10 91 [.agg [.val (.bool b), .val (.string s)]]=(bif S.ng (S.val b s) then some (.tup [(.agg [(.val (.bool false)),(.val (.string (ByteArray.mk #[])))]),(.val (.bool false)),(.val (.int .i64 2))]) else (bif S.ok (S.ms (S.val b s)) then (bif inR IntKind.i64 q_3 then (bif inR IntKind.i64 (q_3.tdiv (2:Int)) then (bif κ (q_3.tdiv (2:Int)) (S.ng (S.val b s)) (S.ms (S.val b s)) false (ByteArray.mk #[]) false (ByteArray.mk #[]) then (bif S.ok q_1.snd.snd&&S.ok q_1.snd.snd then some (.tup [(.agg [(.val (.bool (q_1.snd.fst))),(.val (.string (q_1.snd.snd)))]),(.val (.bool (bif false then !(S.ng q_2==S.ng (S.val b s)&&(strEq (S.ms q_2) (S.ms (S.val b s))&&true)) else S.ng q_2==S.ng (S.val b s)&&(strEq (S.ms q_2) (S.ms (S.val b s))&&true)))),(.val (.int .i64 0))]) else none) else none) else none) else none) else none))):=by kernel_rfl
end
end Go.Proofs.YtdnmkehncpfnnaaGreat.L
namespace Go.Proofs.YtdnmkehncpfnnaaGreat.L
open Go Go.V Go.RowKit Go.Proofs.YtdnmkehncpfnnaaGreat.Sp Go.Proofs.YtdnmkehncpfnnaaGreat.F
open Go.Proofs (Tryz.prog)
noncomputable section
theorem pow2 (k:Nat):(256:Nat) ^ k=2 ^ (8*k):=by rw [Nat.pow_mul]
theorem ng_nn' (n:Nat):sg0.ng (n:Int)=false:=by rw [ng_eq];exact decide_eq_false (by omega)
theorem eq_int (x y:Int):(sg0.ng x==sg0.ng y&&(strEq (sg0.ms x) (sg0.ms y)&&true))=decide (x=y):=by
 by_cases h:x=y
 ·rw [eqI h,decide_eq_true h]
 ·rw [decide_eq_false h,Bool.eq_false_iff]
  intro h2
  simp only [Bool.and_eq_true,beq_iff_eq,strEq_iff,decide_eq_true_eq] at h2
  obtain ⟨h3,h4,_⟩:=h2
  have h6:=val_ms x
  rw [h3,h4,val_ms] at h6
  exact h h6.symm
theorem eRRootX (X:Xg) (h1:X.rt=fun z=>if z < 0 then 0 else (rootN z.natAbs:Int)) (h2:X.rx=fun z=>if z < 0 then false else decide (rootN z.natAbs*rootN z.natAbs=z.natAbs)) (h3:X.re=fun z=>if z < 0 then 2 else 0) (h4:X.ok2=fun s=>decide (s.size≤68719476736)):Entry Tryz.prog 91 (tRoot sg0 X):=by
 refine entry_of (E:= ⟨CRR sg0,Kall,LL_rr cond_rr phi_rr noL⟩) (u:=10) (d:=10) CRR_ok (LL_rr_ok LOk.none).ok mixed (by kernel_rfl) (fun args r h=> ?_)
 unfold tRoot at h
 split at h
 ·rename_i b s
  rw [h1,h2,h3,h4] at h
  simp only [Option.some.injEq,Prod.mk.injEq,decide_eq_true_eq] at h
  obtain ⟨g1,rfl⟩:=h
  have hcall:=rroot_call sg0 cond_rr phi_rr b s
  have hb:=bs_val b s
  generalize sg0.val b s=z at*
  rw [ng_eq] at hcall
  by_cases h0:z < 0
  ·rw [dT h0] at hcall
   rw [hcall,if_pos h0,if_pos h0,if_pos h0,int_nn (Int.le_refl 0)]
   have e3:sg0.mg (0:Int).natAbs=ByteArray.mk #[]:=ms_zero
   rw [e3];rfl
  ·rw [dF h0] at hcall
   obtain ⟨n,rfl⟩:=Int.eq_ofNat_of_zero_le (show 0≤z by omega)
   rw [Int.natAbs_natCast] at*
   have hv:sg0.vs (sg0.ms (n:Int))=n:=by rw [vs_ms,Int.natAbs_natCast]
   have hlt:n < 2 ^ sg0.bl n:=(blen_is n).1
   have hbl:sg0.bl n≤8*bs n:=bl_le n _ (by have:=bs_lt n;rwa [pow2 (bs n)] at this)
   have hk:(((sg0.bl n:Nat):Int)+1).tdiv 2=(((sg0.bl n+1) / 2:Nat):Int):=rfl
   have hng:decide ((n:Int) < 0)=sg0.ng (n:Int):=(ng_eq _).symm
   have hng0:sg0.ng (n:Int)=false:=ng_nn' n
   have hp:pre_rr (((sg0.bl n+1) / 2:Nat):Int) false (sg0.ms (n:Int)) false (ByteArray.mk #[]) false (ByteArray.mk #[]):=
    ⟨n,(sg0.bl n+1) / 2+1,by rw [← hng0];exact val_ms _,by rw [size_ms,Int.natAbs_natCast];omega,by omega,by omega,rfl,ms_zero.symm,by
     refine Nat.lt_of_lt_of_le hlt ?_
     rw [← Nat.pow_add]
     exact Nat.pow_le_pow_right (by decide) (by omega)⟩
   obtain ⟨_,q1,q2⟩:=phi_rr_spec _ _ _ _ _ _ _ hp
   have v0:sg0.val false (sg0.ms (n:Int))=(n:Int):=by rw [← hng0];exact val_ms _
   rw [v0,Int.natAbs_natCast] at q1 q2
   rw [hv,hk,cond_rr_eq _ _ _ _ _ _ _ hp,q1,q2] at hcall
   have hR:rootN n≤n:=by
    rcases Nat.eq_zero_or_pos (rootN n) with e | e
    ·omega
    ·exact Nat.le_trans (Nat.le_mul_of_pos_left _ e) (rootN_is n).1
   have hbR:=bs_mono hR
   simp only [val_ms] at hcall
   rw [ok_ms (z:=(n:Int)) (by rw [Int.natAbs_natCast];omega),ok_ms (z:=((rootN n:Nat):Int)) (by rw [Int.natAbs_natCast];omega),i64T (z:=((sg0.bl n:Nat):Int)+1) (by omega),i64T (z:=(((sg0.bl n+1) / 2:Nat):Int)) (by omega)] at hcall
   rw [hcall,if_neg h0,if_neg h0,if_neg h0]
   have e:=eq_int (((rootN n:Nat):Int)*((rootN n:Nat):Int)) (n:Int)
   rw [hng0] at e
   have key:decide (((rootN n:Nat):Int)*((rootN n:Nat):Int)=(n:Int))=decide (rootN n*rootN n=n):=decide_eq_decide.2 (by rw [← Int.natCast_mul];omega)
   rw [e,key]
   rfl
 ·cases h
theorem eRRoot:Entry Tryz.prog 91 (tRoot sg0 xg0):=eRRootX xg0 rfl rfl rfl rfl
end
end Go.Proofs.YtdnmkehncpfnnaaGreat.L
