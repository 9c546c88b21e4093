import Derived.Test.YtamcpiicmfielaaGreatZQA
import Derived.Test.YtamcpiicmfielaaGreatZNB
import Derived.Test.YtamcpiicmfielaaGreatZNA
import Derived.Test.YtamcpiicmfielaaGreatZQB
set_option linter.unusedVariables false
set_option linter.unusedSimpArgs false
namespace Go.Proofs.YtamcpiicmfielaaGreat.L
open Go Go.V Go.RowKit Go.Proofs.YtamcpiicmfielaaGreat.Sp Go.Proofs.YtamcpiicmfielaaGreat.F
open Go.Proofs (Tryz.prog)
noncomputable section
def tR1 (Z:Qg) (f:Bool→ByteArray→ByteArray→AV):TF:=fun args=>match args with | [.agg [.val (.bool b), .val (.string n), .val (.string d)]]=>some (Z.oks n d,f b n d) | _=>none
def tR2 (Z:Qg) (f:Rat→Rat→AV):TF:=fun args=>match args with | [.agg [.val (.bool b), .val (.string n), .val (.string d)], .agg [.val (.bool c), .val (.string m), .val (.string e)]]=>some (Z.oks n d&&Z.oks m e,f (Z.qv b n d) (Z.qv c m e)) | _=>none
def tRPair (S:Sg) (Z:Qg):TF:=tR1 Z fun b n d=> .tup [S.int (S.val b n),S.int (S.val false (Z.fd d))]
def tReduce (S:Sg) (X:Xg) (Z:Qg):TF:=fun args=>match args with | [.agg [.val (.bool b), .val (.string s)], .agg [.val (.bool c), .val (.string t)]]=>some (X.ok2 s&&X.ok2 t&& !decide (S.val c t=0),Z.rat (Z.fr (S.val b s) (S.val c t))) | _=>none
def tRDigits (S:Sg):TF:=fun args=>match args with | [.val (.int .i64 n)]=>some (decide (0≤n)&&decide (n < 72057594037927936), .val (.string (S.mg n.toNat))) | _=>none
def tRNormal (Z:Qg):TF:=tR1 Z fun b n d=>Z.rat (Z.qv b n d)
abbrev p_num:List Bool:= [false,true,false,true,true]
def sh_num (s:ByteArray) (v:Int) (i:Int):List AV:=slots 19 [(0, .val (.string s)),(3, .val (.int .i64 v)),(4, .val (.int .i64 i))]
def hp_num (s:ByteArray) (v:Int) (i:Int):Hp:= []
theorem body_num:subC Tryz.prog 125 p_num=some (.loop (lb 125 p_num)):=by kernel_rfl
theorem code_num:subC Tryz.prog 125 (false :: p_num)=some (lb 125 p_num):=by kernel_rfl
theorem round_num (s:ByteArray) (v:Int) (i:Int):roundA Tryz.prog EL0 125 [0,3,4] (lb 125 p_num) (false :: p_num) (sh_num s v i) (hp_num s v i)=
  (bif decide (i < (↑s.size:Int)) then (bif inR IntKind.i64 ((256:Int)*v) then (bif decide ((0:Int)≤i)&&decide (i < (↑s.size:Int)) then (bif inR IntKind.i64 (byteAt s i.toNat) then (bif inR IntKind.i64 ((256:Int)*v+byteAt s i.toNat) then (bif inR IntKind.i64 (i+(1:Int)) then some (.normal,slots 19 [(0,(.val (.string s))),(3,(.val (.int .i64 ((256:Int)*v+byteAt s i.toNat)))),(4,(.val (.int .i64 (i+(1:Int)))))], []) else none) else none) else none) else none) else none) else some ((.exit 0),slots 19 [(0,(.val (.string s))),(3,(.val (.int .i64 v))),(4,(.val (.int .i64 i)))], [])):=by kernel_rfl
theorem step_num {s:ByteArray} {v:Int} {i:Int} {e:Ex} {T:List AV} {H:Hp} (h:roundA Tryz.prog EL0 125 [0,3,4] (lb 125 p_num) (false :: p_num) (sh_num s v i) (hp_num s v i)=some (e,T,H)):V.Ends Tryz.prog false 0 0 (lb 125 p_num) (sh_num s v i) (hp_num s v i) e T H:=
 round_ends (meets_none _) loops_none mixed code_num h
def pre_num (s:ByteArray) (v i:Int):Prop:=s.size≤3∧v=0∧i=0
def post_num (s:ByteArray) (v i:Int) (r:Int×Int):Prop:=r.1=(vS s:Nat)
theorem num_go (s:ByteArray) (hs:s.size≤3) (d:Nat):∀ i:Nat,i+d=s.size→∃ r:Int×Int,LoopTo Tryz.prog (lb 125 p_num) (sh_num s (vB (s.data.toList.take i):Nat) i) (hp_num s (vB (s.data.toList.take i):Nat) i) (.exit 0) (sh_num s r.1 r.2) (hp_num s r.1 r.2)∧r.1=(vS s:Nat):=by
 induction d with
 | zero=>
  intro i hi
  have hi':i=s.size:=by omega
  subst hi'
  have e:s.data.toList.take s.size=s.data.toList:=List.take_of_length_le (by rw [Array.length_toList];exact Nat.le_refl _)
  refine ⟨((vB (s.data.toList.take s.size):Nat),(s.size:Int)), .last (step_num ?_) (by intro h;cases h),by rw [e];rfl⟩
  rw [round_num,dF (show ¬ ((s.size:Int) < s.size) by omega)]
  rfl
 | succ d ih=>
  intro i hi
  obtain ⟨r,h1,h2⟩:=ih (i+1) (by omega)
  refine ⟨r, .more (step_num ?_) h1,h2⟩
  rw [round_num]
  have hb:=byteAt_lt s i
  have hsucc:=vB_take_succ s i (by omega)
  have hle:=vB_take_le s.data.toList (i+1)
  have hle:vB (s.data.toList.take (i+1))≤vS s:=hle
  have hv:=vS_small (s:=s) (by omega)
  obtain ⟨c,hc⟩:∃ c:Nat,byteAt s i=c:= ⟨(byteAt s i).toNat,by omega⟩
  rw [hc] at hb hsucc
  have e:((vB (s.data.toList.take (i+1)):Nat):Int)=256*((vB (s.data.toList.take i):Nat):Int)+(c:Int):=by omega
  rw [Int.toNat_natCast,hc,i64T (z:=256*((vB (s.data.toList.take i):Nat):Int)) (by omega),i64T (z:=(c:Int)) (by omega),i64T (z:=256*((vB (s.data.toList.take i):Nat):Int)+(c:Int)) (by omega),i64T (z:=(i:Int)+1) (by omega),dT (show (i:Int) < s.size by omega),dT (show (0:Int)≤(i:Int) by omega)]
  rw [e]
  rfl
theorem loop_num (s:ByteArray) (v i:Int) (h:pre_num s v i):∃ r:Int×Int,LoopTo Tryz.prog (lb 125 p_num) (sh_num s v i) (hp_num s v i) (.exit 0) (sh_num s r.1 r.2) (hp_num s r.1 r.2)∧post_num s v i r:=by
 obtain ⟨h1,rfl,rfl⟩:=h
 exact num_go s h1 s.size 0 (by omega)
def told_num (κ:ByteArray→Int→Int→Bool) (φ:ByteArray→Int→Int→Int×Int) (T:List AV) (H:Hp):Option (Bool×Ex×List AV×Hp):=
 match lget T 0,lget T 3,lget T 4,H with
 | .val (.string s), .val (.int .i64 v), .val (.int .i64 i), []=>bif T.length==19 then some (κ s v i, .exit 0,sh_num s ((φ s v i).1) ((φ s v i).2),hp_num s ((φ s v i).1) ((φ s v i).2)) else none
 | _,_,_,_=>none
abbrev KT_num:Type:=ByteArray→Int→Int→Bool
abbrev FT_num:Type:=ByteArray→Int→Int→Int×Int
def LL_num (κ:KT_num) (φ:FT_num) (L:LTab):LTab:=addLn 0 125 p_num [0,3,4] (told_num κ φ) L
def phi_num (s:ByteArray) (v:Int) (i:Int):Int×Int:=Classical.epsilon fun ρ=>LoopTo Tryz.prog (lb 125 p_num) (sh_num s v i) (hp_num s v i) (.exit 0) (sh_num s (ρ.1) (ρ.2)) (hp_num s (ρ.1) (ρ.2))∧post_num s v i ρ
theorem phi_num_spec (s:ByteArray) (v:Int) (i:Int) (h:pre_num s v i):LoopTo Tryz.prog (lb 125 p_num) (sh_num s v i) (hp_num s v i) (.exit 0) (sh_num s ((phi_num s v i).1) ((phi_num s v i).2)) (hp_num s ((phi_num s v i).1) ((phi_num s v i).2))∧post_num s v i (phi_num s v i):=Classical.epsilon_spec (loop_num s v i h)
def cond_num (s:ByteArray) (v:Int) (i:Int):Bool:= @decide (pre_num s v i) (Classical.propDecidable _)
theorem cond_num_eq (s:ByteArray) (v:Int) (i:Int) (h:pre_num s v i):cond_num s v i=true:= @decide_eq_true _ (Classical.propDecidable _) h
theorem told_num_ok (T:List AV) (H:Hp) (e:Ex) (T1:List AV) (H1:Hp) (h:told_num cond_num phi_num T H=some (true,e,T1,H1)):V.Ends Tryz.prog false 0 0 (.loop (lb 125 p_num)) T H e T1 H1:=by
 unfold told_num at h
 split at h
 ·rename_i s v i h0 h3 h4
  rw [Bool.cond_eq_ite] at h
  split at h
  ·rename_i hlen
   rw [beq_iff_eq] at hlen
   simp only [Option.some.injEq,Prod.mk.injEq,Bool.and_eq_true,decide_eq_true_eq] at h
   obtain ⟨k1,rfl,rfl,rfl⟩:=h
   have kc:= @of_decide_eq_true _ (Classical.propDecidable _) k1
   refine Ends.pre (phi_num_spec s v i kc).1.ends (fun α B w D ys hr=>slots_rel hlen (fun p hp y hy=> ?_) hr)
   simp only [List.mem_cons,List.not_mem_nil,or_false] at hp
   rcases hp with rfl | rfl | rfl
   ·rw [h0] at hy;exact hy
   ·rw [h3] at hy;exact hy
   ·rw [h4] at hy;exact hy
  ·cases h
 ·cases h
theorem LL_num_ok {L:LTab} (h:LOk Tryz.prog L):LOk Tryz.prog (LL_num cond_num phi_num L):=h.add2n body_num told_num_ok
theorem num_call (κ:KT_num) (φ:FT_num) (s:ByteArray):callA Tryz.prog ⟨noC,Kall,LL_num κ φ noL⟩ 10 10 125 [.val (.string s)]=
  (bif κ s (0:Int) (0:Int) then some (.val (.int .i64 ((φ s (0:Int) (0:Int)).fst))) else none):=by kernel_rfl
theorem eRNumber:Entry Tryz.prog 125 (tDigits sg0):=by
 refine entry_of (E:= ⟨noC,Kall,LL_num cond_num phi_num noL⟩) (u:=10) (d:=10) (meets_none _) (LL_num_ok LOk.none).ok mixed (by kernel_rfl) (fun args r h=> ?_)
 unfold tDigits at h
 split at h
 ·rename_i s
  simp only [Option.some.injEq,Prod.mk.injEq,decide_eq_true_eq] at h
  obtain ⟨h1,rfl⟩:=h
  have hp:pre_num s 0 0:= ⟨h1,rfl,rfl⟩
  have h3:=(phi_num_spec _ _ _ hp).2
  have h3:(phi_num s 0 0).1=(vS s:Nat):=h3
  rw [num_call,cond_num_eq _ _ _ hp,h3]
  rfl
 ·cases h
theorem rsmallq_tree (S:Sg) (b:Bool) (n d:ByteArray):callA Tryz.prog ⟨addC 125 (tDigits S) noC,Kall,noL⟩ 10 10 93 [.agg [.val (.bool b), .val (.string n), .val (.string d)]]=
  (bif decide ((3:Int) < (↑n.size:Int)) then some (.tup [(.val (.int .i64 0)),(.val (.int .i64 0)),(.val (.bool false))]) else (bif decide ((3:Int) < (↑d.size:Int)) then some (.tup [(.val (.int .i64 0)),(.val (.int .i64 0)),(.val (.bool false))]) else (bif decide (n.size≤(3:Nat)) then (bif decide (d.size≤(3:Nat)) then (bif decide ((↑(S.vs d):Int)=(0:Int)) then (bif b then some (.tup [(.val (.int .i64 (IntKind.i64.wrap ((0:Int) - (↑(S.vs n):Int))))),(.val (.int .i64 1)),(.val (.bool true))]) else some (.tup [(.val (.int .i64 ((↑(S.vs n):Int)))),(.val (.int .i64 1)),(.val (.bool true))])) else (bif b then some (.tup [(.val (.int .i64 (IntKind.i64.wrap ((0:Int) - (↑(S.vs n):Int))))),(.val (.int .i64 ((↑(S.vs d):Int)))),(.val (.bool true))]) else some (.tup [(.val (.int .i64 ((↑(S.vs n):Int)))),(.val (.int .i64 ((↑(S.vs d):Int)))),(.val (.bool true))]))) else none) else none))):=by kernel_rfl
theorem rdig_tree (n:Int):letI q_11:=(n.fdiv (4294967296:Int));letI q_7:=(n.fdiv (16777216:Int));letI q_5:=(ofBytes [IntKind.u8.wrap (n.fdiv (281474976710656:Int)),IntKind.u8.wrap (n.fdiv (1099511627776:Int)),IntKind.u8.wrap q_11,IntKind.u8.wrap q_7,IntKind.u8.wrap (n.fdiv (65536:Int)),IntKind.u8.wrap (n.fdiv (256:Int)),IntKind.u8.wrap (n.fdiv (1:Int))]);letI q_12:Option AV:=(bif decide ((0:Int) < (n.fdiv (1:Int)).tmod (256:Int)) then some (.val (.string q_5)) else some (.val (.string q_5)));letI q_1:Option AV:=(bif decide ((0:Int) < (n.fdiv (256:Int)).tmod (256:Int)) then q_12 else q_12);letI q_8:=(ofBytes [IntKind.u8.wrap (n.fdiv (1099511627776:Int)),IntKind.u8.wrap q_11,IntKind.u8.wrap q_7,IntKind.u8.wrap (n.fdiv (65536:Int)),IntKind.u8.wrap (n.fdiv (256:Int)),IntKind.u8.wrap (n.fdiv (1:Int))]);letI q_2:Option AV:=(bif decide ((0:Int) < (n.fdiv (1:Int)).tmod (256:Int)) then some (.val (.string q_8)) else some (.val (.string q_8)));letI q_9:=(ofBytes [IntKind.u8.wrap q_11,IntKind.u8.wrap q_7,IntKind.u8.wrap (n.fdiv (65536:Int)),IntKind.u8.wrap (n.fdiv (256:Int)),IntKind.u8.wrap (n.fdiv (1:Int))]);letI q_3:Option AV:=(bif decide ((0:Int) < (n.fdiv (1:Int)).tmod (256:Int)) then some (.val (.string q_9)) else some (.val (.string q_9)));letI q_10:=(ofBytes [IntKind.u8.wrap q_7,IntKind.u8.wrap (n.fdiv (65536:Int)),IntKind.u8.wrap (n.fdiv (256:Int)),IntKind.u8.wrap (n.fdiv (1:Int))]);letI q_4:Option AV:=(bif decide ((0:Int) < (n.fdiv (1:Int)).tmod (256:Int)) then some (.val (.string q_10)) else some (.val (.string q_10)));letI q_13:=(ofBytes [IntKind.u8.wrap (n.fdiv (65536:Int)),IntKind.u8.wrap (n.fdiv (256:Int)),IntKind.u8.wrap (n.fdiv (1:Int))]);letI q_6:Option AV:=(bif decide ((0:Int) < (n.fdiv (1:Int)).tmod (256:Int)) then some (.val (.string q_13)) else some (.val (.string q_13)));
  (callA Tryz.prog ⟨noC,fun _=>false,noL⟩ 10 10 126 [.val (.int .i64 n)]=(bif decide ((0:Int) < (n.fdiv (281474976710656:Int)).tmod (256:Int)) then (bif decide ((0:Int) < (n.fdiv (1099511627776:Int)).tmod (256:Int)) then (bif decide ((0:Int) < q_11.tmod (256:Int)) then (bif decide ((0:Int) < q_7.tmod (256:Int)) then (bif decide ((0:Int) < (n.fdiv (65536:Int)).tmod (256:Int)) then q_1 else q_1) else (bif decide ((0:Int) < (n.fdiv (65536:Int)).tmod (256:Int)) then q_1 else q_1)) else (bif decide ((0:Int) < q_7.tmod (256:Int)) then (bif decide ((0:Int) < (n.fdiv (65536:Int)).tmod (256:Int)) then q_1 else q_1) else (bif decide ((0:Int) < (n.fdiv (65536:Int)).tmod (256:Int)) then q_1 else q_1))) else (bif decide ((0:Int) < q_11.tmod (256:Int)) then (bif decide ((0:Int) < q_7.tmod (256:Int)) then (bif decide ((0:Int) < (n.fdiv (65536:Int)).tmod (256:Int)) then q_1 else q_1) else (bif decide ((0:Int) < (n.fdiv (65536:Int)).tmod (256:Int)) then q_1 else q_1)) else (bif decide ((0:Int) < q_7.tmod (256:Int)) then (bif decide ((0:Int) < (n.fdiv (65536:Int)).tmod (256:Int)) then q_1 else q_1) else (bif decide ((0:Int) < (n.fdiv (65536:Int)).tmod (256:Int)) then q_1 else q_1)))) else (bif decide ((0:Int) < (n.fdiv (1099511627776:Int)).tmod (256:Int)) then (bif decide ((0:Int) < q_11.tmod (256:Int)) then (bif decide ((0:Int) < q_7.tmod (256:Int)) then (bif decide ((0:Int) < (n.fdiv (65536:Int)).tmod (256:Int)) then (bif decide ((0:Int) < (n.fdiv (256:Int)).tmod (256:Int)) then q_2 else q_2) else (bif decide ((0:Int) < (n.fdiv (256:Int)).tmod (256:Int)) then q_2 else q_2)) else (bif decide ((0:Int) < (n.fdiv (65536:Int)).tmod (256:Int)) then (bif decide ((0:Int) < (n.fdiv (256:Int)).tmod (256:Int)) then q_2 else q_2) else (bif decide ((0:Int) < (n.fdiv (256:Int)).tmod (256:Int)) then q_2 else q_2))) else (bif decide ((0:Int) < q_7.tmod (256:Int)) then (bif decide ((0:Int) < (n.fdiv (65536:Int)).tmod (256:Int)) then (bif decide ((0:Int) < (n.fdiv (256:Int)).tmod (256:Int)) then q_2 else q_2) else (bif decide ((0:Int) < (n.fdiv (256:Int)).tmod (256:Int)) then q_2 else q_2)) else (bif decide ((0:Int) < (n.fdiv (65536:Int)).tmod (256:Int)) then (bif decide ((0:Int) < (n.fdiv (256:Int)).tmod (256:Int)) then q_2 else q_2) else (bif decide ((0:Int) < (n.fdiv (256:Int)).tmod (256:Int)) then q_2 else q_2)))) else (bif decide ((0:Int) < q_11.tmod (256:Int)) then (bif decide ((0:Int) < q_7.tmod (256:Int)) then (bif decide ((0:Int) < (n.fdiv (65536:Int)).tmod (256:Int)) then (bif decide ((0:Int) < (n.fdiv (256:Int)).tmod (256:Int)) then q_3 else q_3) else (bif decide ((0:Int) < (n.fdiv (256:Int)).tmod (256:Int)) then q_3 else q_3)) else (bif decide ((0:Int) < (n.fdiv (65536:Int)).tmod (256:Int)) then (bif decide ((0:Int) < (n.fdiv (256:Int)).tmod (256:Int)) then q_3 else q_3) else (bif decide ((0:Int) < (n.fdiv (256:Int)).tmod (256:Int)) then q_3 else q_3))) else (bif decide ((0:Int) < q_7.tmod (256:Int)) then (bif decide ((0:Int) < (n.fdiv (65536:Int)).tmod (256:Int)) then (bif decide ((0:Int) < (n.fdiv (256:Int)).tmod (256:Int)) then q_4 else q_4) else (bif decide ((0:Int) < (n.fdiv (256:Int)).tmod (256:Int)) then q_4 else q_4)) else (bif decide ((0:Int) < (n.fdiv (65536:Int)).tmod (256:Int)) then (bif decide ((0:Int) < (n.fdiv (256:Int)).tmod (256:Int)) then q_6 else q_6) else (bif decide ((0:Int) < (n.fdiv (256:Int)).tmod (256:Int)) then (bif decide ((0:Int) < (n.fdiv (1:Int)).tmod (256:Int)) then some (.val (.string (ofBytes [IntKind.u8.wrap (n.fdiv (256:Int)),IntKind.u8.wrap (n.fdiv (1:Int))]))) else some (.val (.string (ofBytes [IntKind.u8.wrap (n.fdiv (256:Int)),IntKind.u8.wrap (n.fdiv (1:Int))])))) else (bif decide ((0:Int) < (n.fdiv (1:Int)).tmod (256:Int)) then some (.val (.string (ofBytes [IntKind.u8.wrap (n.fdiv (1:Int))]))) else some (.val (.string (ofBytes []))))))))))):=by kernel_rfl
def bl (n:Nat):Nat→List Int
 | 0=> []
 | k+1=>bl (n / 256) k ++ [((n % 256:Nat):Int)]
theorem bl_toB:∀ (k n:Nat),n < 256 ^ k→(k=0∨256 ^ (k - 1)≤n)→(bl n k).map (fun z=>UInt8.ofNat z.toNat)=toB n
 | 0,n,h,_=>by
  have:n=0:=by simpa using h
  subst this
  rw [toB_zero];rfl
 | k+1,n,h,h2=>by
  have h3:256 ^ k≤n:=by
   rcases h2 with h2 | h2
   ·omega
   ·exact h2
  have hp:0 < 256 ^ k:=Nat.pow_pos (by decide)
  have h4:n / 256 < 256 ^ k:=by rw [Nat.div_lt_iff_lt_mul (by decide),← Nat.pow_succ];exact h
  have h5:k=0∨256 ^ (k - 1)≤n / 256:=by
   rcases Nat.eq_zero_or_pos k with e | e
   ·exact .inl e
   ·right
    rw [Nat.le_div_iff_mul_le (by decide),← Nat.pow_succ,show (k - 1).succ=k by omega]
    exact h3
  rw [toB_pos (by omega),← bl_toB k (n / 256) h4 h5]
  show (bl (n / 256) k ++ [((n % 256:Nat):Int)]).map _=_
  rw [List.map_append]
  refine congrArg (_ ++ ·) ?_
  show [UInt8.ofNat (n % 256)]= [UInt8.ofNat n]
  refine congrArg (fun x=> [x]) ?_
  apply UInt8.toNat_inj.1
  rw [UInt8.toNat_ofNat',UInt8.toNat_ofNat']
  omega
theorem bl_mag {k n:Nat} {zs:List Int} (e:zs=bl n k) (h:n < 256 ^ k) (h2:k=0∨256 ^ (k - 1)≤n):ofBytes zs=magOf n:=by
 rw [e];exact ofBytes_toB (bl_toB k n h h2)
theorem cond_same {α:Type} (u:Bool) (x:α):(bif u then x else x)=x:=by cases u <;> rfl
theorem eRDigits:Entry Tryz.prog 126 (tRDigits sg0):=by
 refine entry_of (E:= ⟨noC,fun _=>false,noL⟩) (u:=10) (d:=10) (meets_none _) loops_none mixed (by kernel_rfl) (fun args r h=> ?_)
 unfold tRDigits at h
 split at h
 ·rename_i z
  simp only [Option.some.injEq,Prod.mk.injEq,Bool.and_eq_true,decide_eq_true_eq] at h
  obtain ⟨⟨h1,h2⟩,rfl⟩:=h
  obtain ⟨n,rfl⟩:=Int.eq_ofNat_of_zero_le h1
  have hn:n < 72057594037927936:=by omega
  rw [Int.toNat_natCast,rdig_tree]
  simp only [cond_same]
  have f6:(n:Int).fdiv (281474976710656:Int)=((n / 281474976710656:Nat):Int):=fdivN n 281474976710656
  have f5:(n:Int).fdiv (1099511627776:Int)=((n / 1099511627776:Nat):Int):=fdivN n 1099511627776
  have f4:(n:Int).fdiv (4294967296:Int)=((n / 4294967296:Nat):Int):=fdivN n 4294967296
  have f3:(n:Int).fdiv (16777216:Int)=((n / 16777216:Nat):Int):=fdivN n 16777216
  have f2:(n:Int).fdiv (65536:Int)=((n / 65536:Nat):Int):=fdivN n 65536
  have f1:(n:Int).fdiv (256:Int)=((n / 256:Nat):Int):=fdivN n 256
  have f0:(n:Int).fdiv (1:Int)=(n:Int):=by rw [Int.fdiv_one]
  have tm:∀ k:Nat,((k:Nat):Int).tmod (256:Int)=((k % 256:Nat):Int):=fun k=>rfl
  rw [f6,f5,f4,f3,f2,f1,f0]
  simp only [tm,u8w]
  have goal:∀ zs,ofBytes zs=magOf n→some (AV.val (.string (ofBytes zs)))=some (AV.val (.string (sg0.mg n))):=fun zs h=>by rw [h];rfl
  by_cases c6:281474976710656≤n
  ·rw [dT (show (0:Int) < ((n / 281474976710656 % 256:Nat):Int) by omega)]
   exact goal _ (bl_mag (k:=7) (by simp [bl,Nat.div_div_eq_div_mul]) hn (.inr c6))
  ·rw [dF (show ¬ (0:Int) < ((n / 281474976710656 % 256:Nat):Int) by omega)]
   by_cases c5:1099511627776≤n
   ·rw [dT (show (0:Int) < ((n / 1099511627776 % 256:Nat):Int) by omega)]
    exact goal _ (bl_mag (k:=6) (by simp [bl,Nat.div_div_eq_div_mul]) (show n < 281474976710656 by omega) (.inr c5))
   ·rw [dF (show ¬ (0:Int) < ((n / 1099511627776 % 256:Nat):Int) by omega)]
    by_cases c4:4294967296≤n
    ·rw [dT (show (0:Int) < ((n / 4294967296 % 256:Nat):Int) by omega)]
     exact goal _ (bl_mag (k:=5) (by simp [bl,Nat.div_div_eq_div_mul]) (show n < 1099511627776 by omega) (.inr c4))
    ·rw [dF (show ¬ (0:Int) < ((n / 4294967296 % 256:Nat):Int) by omega)]
     by_cases c3:16777216≤n
     ·rw [dT (show (0:Int) < ((n / 16777216 % 256:Nat):Int) by omega)]
      exact goal _ (bl_mag (k:=4) (by simp [bl,Nat.div_div_eq_div_mul]) (show n < 4294967296 by omega) (.inr c3))
     ·rw [dF (show ¬ (0:Int) < ((n / 16777216 % 256:Nat):Int) by omega)]
      by_cases c2:65536≤n
      ·rw [dT (show (0:Int) < ((n / 65536 % 256:Nat):Int) by omega)]
       exact goal _ (bl_mag (k:=3) (by simp [bl,Nat.div_div_eq_div_mul]) (show n < 16777216 by omega) (.inr c2))
      ·rw [dF (show ¬ (0:Int) < ((n / 65536 % 256:Nat):Int) by omega)]
       by_cases c1:256≤n
       ·rw [dT (show (0:Int) < ((n / 256 % 256:Nat):Int) by omega)]
        exact goal _ (bl_mag (k:=2) (by simp [bl,Nat.div_div_eq_div_mul]) (show n < 65536 by omega) (.inr c1))
       ·rw [dF (show ¬ (0:Int) < ((n / 256 % 256:Nat):Int) by omega)]
        by_cases c0:0 < n
        ·rw [dT (show (0:Int) < ((n % 256:Nat):Int) by omega)]
         exact goal _ (bl_mag (k:=1) (by simp [bl]) (show n < 256 by omega) (.inr c0))
        ·rw [dF (show ¬ (0:Int) < ((n % 256:Nat):Int) by omega)]
         exact goal _ (bl_mag (k:=0) rfl (show n < 1 by omega) (.inl rfl))
 ·cases h
theorem eRSmallQ:Entry Tryz.prog 93 (tMachine sq0):=by
 refine entry_of (E:= ⟨addC 125 (tDigits sg0) noC,Kall,noL⟩) (u:=10) (d:=10) ((meets_none _).add eRNumber) loops_none mixed (by kernel_rfl) (fun args r h=> ?_)
 unfold tMachine at h
 split at h
 ·rename_i b n d
  simp only [Option.some.injEq,Prod.mk.injEq,true_and] at h
  subst h
  rw [rsmallq_tree]
  have hz:∀ x y:ByteArray,sq0.ms x y=smn x y:=fun x y=>rfl
  have hn:sq0.mn b n d=bif smn n d then sg0.val b n else 0:=rfl
  have hd:sq0.md n d=bif smn n d then dn d else 0:=rfl
  rw [hz,hn,hd]
  unfold smn
  by_cases h1:n.size≤3
  ·by_cases h2:d.size≤3
   ·rw [dF (show ¬ (3:Int) < n.size by omega),dF (show ¬ (3:Int) < d.size by omega),dT h1,dT h2]
    have b1:=vS_small (s:=n) (by omega)
    have b1:sg0.vs n < _:=b1
    have hv:∀ b,sg0.val b n=if b=true then -(sg0.vs n:Int) else (sg0.vs n:Int):=fun b=>rfl
    have hw:IntKind.i64.wrap (0 - ((sg0.vs n:Nat):Int))= -((sg0.vs n:Nat):Int):=by rw [IntKind.wrap_i64];omega
    have hd0:dn d=if sg0.vs d=0 then 1 else (sg0.vs d:Int):=rfl
    rw [hd0,hw,hv]
    by_cases h0:sg0.vs d=0
    ·rw [dT (show ((sg0.vs d:Nat):Int)=0 by omega),if_pos h0]
     cases b <;> rfl
    ·rw [dF (show ¬ ((sg0.vs d:Nat):Int)=0 by omega),if_neg h0]
     cases b <;> rfl
   ·rw [dF (show ¬ (3:Int) < n.size by omega),dT (show (3:Int) < d.size by omega),dF h2,Bool.and_false];rfl
  ·rw [dT (show (3:Int) < n.size by omega),dF h1];rfl
 ·cases h
end
end Go.Proofs.YtamcpiicmfielaaGreat.L
namespace Go.Proofs.YtamcpiicmfielaaGreat.L
open Go Go.V Go.RowKit Go.Proofs.YtamcpiicmfielaaGreat.Sp Go.Proofs.YtamcpiicmfielaaGreat.F
open Go.Proofs (Tryz.prog)
noncomputable section
abbrev p_pk:List Bool:= [false,false,true,true,true,true,true]
def sh_pk (n:Int) (d:Int) (a:Int) (c:Int) (ub:Bool) (un:ByteArray) (ud:ByteArray) (rb:Bool) (rn:ByteArray) (rd:ByteArray):List AV:=slots 41 [(0, .val (.int .i64 n)),(1, .val (.int .i64 d)),(4, .ptr 0 0),(5, .ptr 1 0),(6, .val (.int .i64 a)),(7, .val (.int .i64 c))]
def hp_pk (n:Int) (d:Int) (a:Int) (c:Int) (ub:Bool) (un:ByteArray) (ud:ByteArray) (rb:Bool) (rn:ByteArray) (rd:ByteArray):Hp:= [.row (.cells [.val (.bool ub), .val (.string un), .val (.string ud)]) 27 .live, .row (.cells [.val (.bool rb), .val (.string rn), .val (.string rd)]) 27 .live]
theorem body_pk:subC Tryz.prog 94 p_pk=some (.loop (lb 94 p_pk)):=by kernel_rfl
theorem code_pk:subC Tryz.prog 94 (false :: p_pk)=some (lb 94 p_pk):=by kernel_rfl
theorem round_pk (n:Int) (d:Int) (a:Int) (c:Int) (ub:Bool) (un:ByteArray) (ud:ByteArray) (rb:Bool) (rn:ByteArray) (rd:ByteArray):roundA Tryz.prog EL0 94 [0,1,4,5,6,7] (lb 94 p_pk) (false :: p_pk) (sh_pk n d a c ub un ud rb rn rd) (hp_pk n d a c ub un ud rb rn rd)=
  (bif decide ((0:Int) < c) then (bif decide (c=(0:Int)) then none else some (.normal,slots 41 [(0,(.val (.int .i64 n))),(1,(.val (.int .i64 d))),(4,(.ptr 0 0)),(5,(.ptr 1 0)),(6,(.val (.int .i64 c))),(7,(.val (.int .i64 (a.tmod c))))], [(.row (.cells [(.val (.bool ub)),(.val (.string un)),(.val (.string ud))]) 27 .live),(.row (.cells [(.val (.bool rb)),(.val (.string rn)),(.val (.string rd))]) 27 .live)])) else some ((.exit 0),slots 41 [(0,(.val (.int .i64 n))),(1,(.val (.int .i64 d))),(4,(.ptr 0 0)),(5,(.ptr 1 0)),(6,(.val (.int .i64 a))),(7,(.val (.int .i64 c)))], [(.row (.cells [(.val (.bool ub)),(.val (.string un)),(.val (.string ud))]) 27 .live),(.row (.cells [(.val (.bool rb)),(.val (.string rn)),(.val (.string rd))]) 27 .live)])):=by kernel_rfl
theorem step_pk {n:Int} {d:Int} {a:Int} {c:Int} {ub:Bool} {un:ByteArray} {ud:ByteArray} {rb:Bool} {rn:ByteArray} {rd:ByteArray} {e:Ex} {T:List AV} {H:Hp} (h:roundA Tryz.prog EL0 94 [0,1,4,5,6,7] (lb 94 p_pk) (false :: p_pk) (sh_pk n d a c ub un ud rb rn rd) (hp_pk n d a c ub un ud rb rn rd)=some (e,T,H)):V.Ends Tryz.prog false 0 0 (lb 94 p_pk) (sh_pk n d a c ub un ud rb rn rd) (hp_pk n d a c ub un ud rb rn rd) e T H:=
 round_ends (meets_none _) loops_none mixed code_pk h
def pre_pk (n d a c:Int) (ub:Bool) (un ud:ByteArray) (rb:Bool) (rn rd:ByteArray):Prop:=0≤a∧0≤c
def post_pk (n d a c:Int) (ub:Bool) (un ud:ByteArray) (rb:Bool) (rn rd:ByteArray) (r:Int×Int):Prop:=r.1=(Nat.gcd a.natAbs c.natAbs:Nat)
theorem pk_go (n d:Int) (ub:Bool) (un ud:ByteArray) (rb:Bool) (rn rd:ByteArray) (k:Nat):∀ a c:Nat,c=k→∃ r:Int×Int,LoopTo Tryz.prog (lb 94 p_pk) (sh_pk n d a c ub un ud rb rn rd) (hp_pk n d a c ub un ud rb rn rd) (.exit 0) (sh_pk n d r.1 r.2 ub un ud rb rn rd) (hp_pk n d r.1 r.2 ub un ud rb rn rd)∧r.1=(Nat.gcd a c:Nat):=by
 induction k using Nat.strongRecOn with
 | _ k ih=>
  intro a c hk
  have hr:=round_pk n d a c ub un ud rb rn rd
  by_cases h0:c=0
  ·refine ⟨((a:Int),(c:Int)), .last (step_pk ?_) (by intro h;cases h),by rw [h0,Nat.gcd_zero_right]⟩
   rw [hr,dF (show ¬ (0:Int) < (c:Int) by omega)]
   rfl
  ·have hm:a % c < c:=Nat.mod_lt _ (by omega)
   obtain ⟨r,h1,h2⟩:=ih (a % c) (by omega) c (a % c) rfl
   refine ⟨r, .more (step_pk ?_) h1,by rw [h2,Nat.gcd_comm c,← Nat.gcd_rec,Nat.gcd_comm]⟩
   rw [hr,dT (show (0:Int) < (c:Int) by omega),dF (show ¬ (c:Int)=0 by omega)]
   rfl
theorem loop_pk (n d a c:Int) (ub:Bool) (un ud:ByteArray) (rb:Bool) (rn rd:ByteArray) (h:pre_pk n d a c ub un ud rb rn rd):∃ r:Int×Int,LoopTo Tryz.prog (lb 94 p_pk) (sh_pk n d a c ub un ud rb rn rd) (hp_pk n d a c ub un ud rb rn rd) (.exit 0) (sh_pk n d r.1 r.2 ub un ud rb rn rd) (hp_pk n d r.1 r.2 ub un ud rb rn rd)∧post_pk n d a c ub un ud rb rn rd r:=by
 obtain ⟨h1,h2⟩:=h
 obtain ⟨a,rfl⟩:=Int.eq_ofNat_of_zero_le h1
 obtain ⟨c,rfl⟩:=Int.eq_ofNat_of_zero_le h2
 obtain ⟨r,k1,k2⟩:=pk_go n d ub un ud rb rn rd c a c rfl
 exact ⟨r,k1,by unfold post_pk;rw [k2];rfl⟩
def told_pk (κ:Int→Int→Int→Int→Bool→ByteArray→ByteArray→Bool→ByteArray→ByteArray→Bool) (φ:Int→Int→Int→Int→Bool→ByteArray→ByteArray→Bool→ByteArray→ByteArray→Int×Int) (T:List AV) (H:Hp):Option (Bool×Ex×List AV×Hp):=
 match lget T 0,lget T 1,lget T 4,lget T 5,lget T 6,lget T 7,H with
 | .val (.int .i64 n), .val (.int .i64 d), .ptr 0 0, .ptr 1 0, .val (.int .i64 a), .val (.int .i64 c), [.row (.cells [.val (.bool ub), .val (.string un), .val (.string ud)]) 27 .live, .row (.cells [.val (.bool rb), .val (.string rn), .val (.string rd)]) 27 .live]=>bif T.length==41 then some (κ n d a c ub un ud rb rn rd, .exit 0,sh_pk n d ((φ n d a c ub un ud rb rn rd).1) ((φ n d a c ub un ud rb rn rd).2) ub un ud rb rn rd,hp_pk n d ((φ n d a c ub un ud rb rn rd).1) ((φ n d a c ub un ud rb rn rd).2) ub un ud rb rn rd) else none
 | _,_,_,_,_,_,_=>none
abbrev KT_pk:Type:=Int→Int→Int→Int→Bool→ByteArray→ByteArray→Bool→ByteArray→ByteArray→Bool
abbrev FT_pk:Type:=Int→Int→Int→Int→Bool→ByteArray→ByteArray→Bool→ByteArray→ByteArray→Int×Int
def LL_pk (κ:KT_pk) (φ:FT_pk) (L:LTab):LTab:=addLn 0 94 p_pk [0,1,4,5,6,7] (told_pk κ φ) L
def phi_pk (n:Int) (d:Int) (a:Int) (c:Int) (ub:Bool) (un:ByteArray) (ud:ByteArray) (rb:Bool) (rn:ByteArray) (rd:ByteArray):Int×Int:=Classical.epsilon fun ρ=>LoopTo Tryz.prog (lb 94 p_pk) (sh_pk n d a c ub un ud rb rn rd) (hp_pk n d a c ub un ud rb rn rd) (.exit 0) (sh_pk n d (ρ.1) (ρ.2) ub un ud rb rn rd) (hp_pk n d (ρ.1) (ρ.2) ub un ud rb rn rd)∧post_pk n d a c ub un ud rb rn rd ρ
theorem phi_pk_spec (n:Int) (d:Int) (a:Int) (c:Int) (ub:Bool) (un:ByteArray) (ud:ByteArray) (rb:Bool) (rn:ByteArray) (rd:ByteArray) (h:pre_pk n d a c ub un ud rb rn rd):LoopTo Tryz.prog (lb 94 p_pk) (sh_pk n d a c ub un ud rb rn rd) (hp_pk n d a c ub un ud rb rn rd) (.exit 0) (sh_pk n d ((phi_pk n d a c ub un ud rb rn rd).1) ((phi_pk n d a c ub un ud rb rn rd).2) ub un ud rb rn rd) (hp_pk n d ((phi_pk n d a c ub un ud rb rn rd).1) ((phi_pk n d a c ub un ud rb rn rd).2) ub un ud rb rn rd)∧post_pk n d a c ub un ud rb rn rd (phi_pk n d a c ub un ud rb rn rd):=Classical.epsilon_spec (loop_pk n d a c ub un ud rb rn rd h)
def cond_pk (n:Int) (d:Int) (a:Int) (c:Int) (ub:Bool) (un:ByteArray) (ud:ByteArray) (rb:Bool) (rn:ByteArray) (rd:ByteArray):Bool:= @decide (pre_pk n d a c ub un ud rb rn rd) (Classical.propDecidable _)
theorem cond_pk_eq (n:Int) (d:Int) (a:Int) (c:Int) (ub:Bool) (un:ByteArray) (ud:ByteArray) (rb:Bool) (rn:ByteArray) (rd:ByteArray) (h:pre_pk n d a c ub un ud rb rn rd):cond_pk n d a c ub un ud rb rn rd=true:= @decide_eq_true _ (Classical.propDecidable _) h
theorem told_pk_ok (T:List AV) (H:Hp) (e:Ex) (T1:List AV) (H1:Hp) (h:told_pk cond_pk phi_pk T H=some (true,e,T1,H1)):V.Ends Tryz.prog false 0 0 (.loop (lb 94 p_pk)) T H e T1 H1:=by
 unfold told_pk at h
 split at h
 ·rename_i n d a c ub un ud rb rn rd h0 h1 h4 h5 h6 h7
  rw [Bool.cond_eq_ite] at h
  split at h
  ·rename_i hlen
   rw [beq_iff_eq] at hlen
   simp only [Option.some.injEq,Prod.mk.injEq,Bool.and_eq_true,decide_eq_true_eq] at h
   obtain ⟨k1,rfl,rfl,rfl⟩:=h
   have kc:= @of_decide_eq_true _ (Classical.propDecidable _) k1
   refine Ends.pre (phi_pk_spec n d a c ub un ud rb rn rd kc).1.ends (fun α B w D ys hr=>slots_rel hlen (fun p hp y hy=> ?_) hr)
   simp only [List.mem_cons,List.not_mem_nil,or_false] at hp
   rcases hp with rfl | rfl | rfl | rfl | rfl | rfl
   ·rw [h0] at hy;exact hy
   ·rw [h1] at hy;exact hy
   ·rw [h4] at hy;exact hy
   ·rw [h5] at hy;exact hy
   ·rw [h6] at hy;exact hy
   ·rw [h7] at hy;exact hy
  ·cases h
 ·cases h
theorem LL_pk_ok {L:LTab} (h:LOk Tryz.prog L):LOk Tryz.prog (LL_pk cond_pk phi_pk L):=h.add2n body_pk told_pk_ok
theorem pack_tree (S:Sg) (κ:KT_pk) (φ:FT_pk) (n d:Int):letI q_3:=(IntKind.i64.wrap ((0:Int) - n));letI q_4:=(decide (n < (0:Int)));letI q_1:=(φ q_3 d q_3 d false (ByteArray.mk #[]) (ByteArray.mk #[]) q_4 (ByteArray.mk #[]) (ByteArray.mk #[]));letI q_2:=(φ n d n d false (ByteArray.mk #[]) (ByteArray.mk #[]) q_4 (ByteArray.mk #[]) (ByteArray.mk #[]));
  (callA Tryz.prog ⟨addC 126 (tRDigits S) noC,Kall,LL_pk κ φ noL⟩ 10 10 94 [.val (.int .i64 n), .val (.int .i64 d)]=(bif decide (n < (0:Int)) then (bif decide (IntKind.i64.wrap ((0:Int) - n)=(0:Int)) then some (.agg [(.val (.bool false)),(.val (.string (ByteArray.mk #[]))),(.val (.string (ByteArray.mk #[])))]) else (bif κ q_3 d q_3 d false (ByteArray.mk #[]) (ByteArray.mk #[]) q_4 (ByteArray.mk #[]) (ByteArray.mk #[]) then (bif decide (q_1.fst=(0:Int)) then none else (bif inR IntKind.i64 (q_3.tdiv q_1.fst) then (bif decide ((0:Int)≤q_3.tdiv q_1.fst)&&decide (q_3.tdiv q_1.fst < (72057594037927936:Int)) then (bif decide (q_1.fst=(0:Int)) then none else (bif inR IntKind.i64 (d.tdiv q_1.fst) then (bif decide ((1:Int) < d.tdiv q_1.fst) then (bif decide (q_1.fst=(0:Int)) then none else (bif inR IntKind.i64 (d.tdiv q_1.fst) then (bif decide ((0:Int)≤d.tdiv q_1.fst)&&decide (d.tdiv q_1.fst < (72057594037927936:Int)) then some (.agg [(.val (.bool q_4)),(.val (.string (S.mg (q_3.tdiv q_1.fst).toNat))),(.val (.string (S.mg (d.tdiv q_1.fst).toNat)))]) else none) else none)) else some (.agg [(.val (.bool q_4)),(.val (.string (S.mg (q_3.tdiv q_1.fst).toNat))),(.val (.string (ByteArray.mk #[])))])) else none)) else none) else none)) else none)) else (bif decide (n=(0:Int)) then some (.agg [(.val (.bool false)),(.val (.string (ByteArray.mk #[]))),(.val (.string (ByteArray.mk #[])))]) else (bif κ n d n d false (ByteArray.mk #[]) (ByteArray.mk #[]) q_4 (ByteArray.mk #[]) (ByteArray.mk #[]) then (bif decide (q_2.fst=(0:Int)) then none else (bif inR IntKind.i64 (n.tdiv q_2.fst) then (bif decide ((0:Int)≤n.tdiv q_2.fst)&&decide (n.tdiv q_2.fst < (72057594037927936:Int)) then (bif decide (q_2.fst=(0:Int)) then none else (bif inR IntKind.i64 (d.tdiv q_2.fst) then (bif decide ((1:Int) < d.tdiv q_2.fst) then (bif decide (q_2.fst=(0:Int)) then none else (bif inR IntKind.i64 (d.tdiv q_2.fst) then (bif decide ((0:Int)≤d.tdiv q_2.fst)&&decide (d.tdiv q_2.fst < (72057594037927936:Int)) then some (.agg [(.val (.bool q_4)),(.val (.string (S.mg (n.tdiv q_2.fst).toNat))),(.val (.string (S.mg (d.tdiv q_2.fst).toNat)))]) else none) else none)) else some (.agg [(.val (.bool q_4)),(.val (.string (S.mg (n.tdiv q_2.fst).toNat))),(.val (.string (ByteArray.mk #[])))])) else none)) else none) else none)) else none)))):=by kernel_rfl
def CRp (S:Sg):FuncId→TF:=addC 102 (tAdd S) (addC 124 (tOf S) noC)
theorem rparts_tree (S:Sg) (b:Bool) (n d:ByteArray):callA Tryz.prog ⟨CRp S,Kall,noL⟩ 10 10 90 [.agg [.val (.bool b), .val (.string n), .val (.string d)]]=
  (bif S.ok n&&S.ok (ByteArray.mk #[]) then (bif S.ok d&&S.ok (ByteArray.mk #[]) then (bif strEq (S.ms (S.val false d+S.val false (ByteArray.mk #[]))) (ByteArray.mk #[]) then some (.tup [(.agg [(.val (.bool (S.ng (S.val b n+S.val false (ByteArray.mk #[]))))),(.val (.string (S.ms (S.val b n+S.val false (ByteArray.mk #[])))))]),(.agg [(.val (.bool (S.ng (1:Int)))),(.val (.string (S.ms (1:Int))))])]) else some (.tup [(.agg [(.val (.bool (S.ng (S.val b n+S.val false (ByteArray.mk #[]))))),(.val (.string (S.ms (S.val b n+S.val false (ByteArray.mk #[])))))]),(.agg [(.val (.bool (S.ng (S.val false d+S.val false (ByteArray.mk #[]))))),(.val (.string (S.ms (S.val false d+S.val false (ByteArray.mk #[])))))])])) else none) else none):=by kernel_rfl
def CRe (S:Sg) (X:Xg):FuncId→TF:=addC 127 (tNeg S) (addC 128 (tGcd2 S X) (addC 129 (tDiv2 S X) (CRp S)))
theorem reduce_tree (S:Sg) (X:Xg) (b c:Bool) (s t:ByteArray):letI q_3:=(S.val b s+S.val false (ByteArray.mk #[]));letI q_8:=(-S.val (S.ng q_3) (S.ms q_3));letI q_4:=(S.val c t+S.val false (ByteArray.mk #[]));letI q_7:=(-S.val (S.ng q_4) (S.ms q_4));letI q_1:=(X.gcd (S.val (S.ng q_8) (S.ms q_8)) (S.val (S.ng q_7) (S.ms q_7)));letI q_2:=(X.gcd (S.val (S.ng q_3) (S.ms q_3)) (S.val (S.ng q_4) (S.ms q_4)));letI q_5:=(X.dq (S.val (S.ng q_8) (S.ms q_8)) (S.val (S.ng q_1) (S.ms q_1)));letI q_6:=(X.dq (S.val (S.ng q_3) (S.ms q_3)) (S.val (S.ng q_2) (S.ms q_2)));
  (callA Tryz.prog ⟨CRe S X,Kall,noL⟩ 10 10 95 [.agg [.val (.bool b), .val (.string s)], .agg [.val (.bool c), .val (.string t)]]=(bif S.ok s&&S.ok (ByteArray.mk #[]) then (bif S.ok t&&S.ok (ByteArray.mk #[]) then (bif strEq (S.ms q_3) (ByteArray.mk #[]) then some (.agg [(.val (.bool false)),(.val (.string (ByteArray.mk #[]))),(.val (.string (ByteArray.mk #[])))]) else (bif S.ng q_4 then (bif S.ok (S.ms q_3) then (bif S.ok (S.ms q_4) then (bif X.ok2 (S.ms q_8)&&X.ok2 (S.ms q_7) then (bif X.ok2 (S.ms q_8)&&X.ok2 (S.ms q_1) then (bif X.ok2 (S.ms q_7)&&X.ok2 (S.ms q_1) then (bif !strEq (S.ms (X.dq (S.val (S.ng q_7) (S.ms q_7)) (S.val (S.ng q_1) (S.ms q_1)))) (ByteArray.mk #[(1:UInt8)]) then some (.agg [(.val (.bool (S.ng q_5))),(.val (.string (S.ms q_5))),(.val (.string (S.ms (X.dq (S.val (S.ng q_7) (S.ms q_7)) (S.val (S.ng q_1) (S.ms q_1))))))]) else some (.agg [(.val (.bool (S.ng q_5))),(.val (.string (S.ms q_5))),(.val (.string (ByteArray.mk #[])))])) else none) else none) else none) else none) else none) else (bif X.ok2 (S.ms q_3)&&X.ok2 (S.ms q_4) then (bif X.ok2 (S.ms q_3)&&X.ok2 (S.ms q_2) then (bif X.ok2 (S.ms q_4)&&X.ok2 (S.ms q_2) then (bif !strEq (S.ms (X.dq (S.val (S.ng q_4) (S.ms q_4)) (S.val (S.ng q_2) (S.ms q_2)))) (ByteArray.mk #[(1:UInt8)]) then some (.agg [(.val (.bool (S.ng q_6))),(.val (.string (S.ms q_6))),(.val (.string (S.ms (X.dq (S.val (S.ng q_4) (S.ms q_4)) (S.val (S.ng q_2) (S.ms q_2))))))]) else some (.agg [(.val (.bool (S.ng q_6))),(.val (.string (S.ms q_6))),(.val (.string (ByteArray.mk #[])))])) else none) else none) else none))) else none) else none)):=by kernel_rfl
def CRn (S:Sg) (X:Xg) (Z:Qg):FuncId→TF:=addC 93 (tMachine Z) (addC 94 (tRatio0 Z) (addC 90 (tRPair S Z) (addC 95 (tReduce S X Z) noC)))
theorem normal_tree (S:Sg) (X:Xg) (Z:Qg) (b:Bool) (n d:ByteArray):callA Tryz.prog ⟨CRn S X Z,Kall,noL⟩ 10 10 100 [.agg [.val (.bool b), .val (.string n), .val (.string d)]]=
  (bif Z.ms n d then (bif mid (Z.mn b n d)&&mid (Z.md n d)&&decide ((0:Int) < Z.md n d) then some (.agg [(.val (.bool (Z.qn (Z.fr (Z.mn b n d) (Z.md n d))))),(.val (.string (Z.qs (Z.fr (Z.mn b n d) (Z.md n d))))),(.val (.string (Z.qd (Z.fr (Z.mn b n d) (Z.md n d)))))]) else none) else (bif Z.oks n d then (bif X.ok2 (S.ms (S.val b n))&&X.ok2 (S.ms (S.val false (Z.fd d)))&& !decide (S.val (S.ng (S.val false (Z.fd d))) (S.ms (S.val false (Z.fd d)))=(0:Int)) then some (.agg [(.val (.bool (Z.qn (Z.fr (S.val (S.ng (S.val b n)) (S.ms (S.val b n))) (S.val (S.ng (S.val false (Z.fd d))) (S.ms (S.val false (Z.fd d)))))))),(.val (.string (Z.qs (Z.fr (S.val (S.ng (S.val b n)) (S.ms (S.val b n))) (S.val (S.ng (S.val false (Z.fd d))) (S.ms (S.val false (Z.fd d)))))))),(.val (.string (Z.qd (Z.fr (S.val (S.ng (S.val b n)) (S.ms (S.val b n))) (S.val (S.ng (S.val false (Z.fd d))) (S.ms (S.val false (Z.fd d))))))))]) else none) else none)):=by kernel_rfl
def CRm (S:Sg) (X:Xg) (Z:Qg):FuncId→TF:=addC 95 (tReduce S X Z) (addC 124 (tOf S) (addC 97 (tCompare S) (addC 100 (tRNormal Z) (addC 90 (tRPair S Z) noC))))
theorem rqcheck_tree (S:Sg) (X:Xg) (Z:Qg) (b:Bool) (n d:ByteArray):callA Tryz.prog ⟨CRm S X Z,Kall,noL⟩ 10 10 51 [.agg [.val (.bool b), .val (.string n), .val (.string d)]]=
  (bif Z.oks n d then (bif bif true then !(Z.qn (Z.qv b n d)==b&&(strEq (Z.qs (Z.qv b n d)) n&&(strEq (Z.qd (Z.qv b n d)) d&&true))) else Z.qn (Z.qv b n d)==b&&(strEq (Z.qs (Z.qv b n d)) n&&(strEq (Z.qd (Z.qv b n d)) d&&true)) then some (.val (.int .i64 1)) else some (.val (.int .i64 0))) else none):=by kernel_rfl
end
end Go.Proofs.YtamcpiicmfielaaGreat.L
namespace Go.Proofs.YtamcpiicmfielaaGreat.L
open Go Go.V Go.RowKit Go.Proofs.YtamcpiicmfielaaGreat.Sp Go.Proofs.YtamcpiicmfielaaGreat.F
open Go.Proofs (Tryz.prog)
noncomputable section
theorem eRPackQ:Entry Tryz.prog 94 (tRatio0 sq0):=by
 refine entry_of (E:= ⟨addC 126 (tRDigits sg0) noC,Kall,LL_pk cond_pk phi_pk noL⟩) (u:=10) (d:=10) ((meets_none _).add eRDigits) (LL_pk_ok LOk.none).ok mixed (by kernel_rfl) (fun args r h=> ?_)
 unfold tRatio0 at h
 split at h
 ·rename_i n d
  simp only [Option.some.injEq,Prod.mk.injEq,Bool.and_eq_true,decide_eq_true_eq] at h
  obtain ⟨⟨⟨h1,h2⟩,h3⟩,rfl⟩:=h
  have b1:=mid_out h1
  have b2:=mid_out h2
  have hcall:=pack_tree sg0 cond_pk phi_pk n d
  have hw:IntKind.i64.wrap (0 - n)= -n:=by rw [IntKind.wrap_i64];omega
  have hgp:0 < Nat.gcd n.natAbs d.natAbs:=Nat.gcd_pos_of_pos_right _ (by omega)
  have l1:=Nat.div_le_self n.natAbs (Nat.gcd n.natAbs d.natAbs)
  have l2:=Nat.div_le_self d.natAbs (Nat.gcd n.natAbs d.natAbs)
  obtain ⟨f1,_,f3,f4⟩:=fr_parts n h3
  have hfr:sq0.fr n d=Rat.divInt n d:=rfl
  have hs:sq0.qn (Rat.divInt n d)=decide (n < 0):=by
   have:sq0.qn (Rat.divInt n d)=sg0.ng (Rat.divInt n d).num:=rfl
   rw [this,ng_eq]
   refine decide_eq_decide.2 ?_
   rw [f1,Int.ediv_lt_iff_lt_mul (zg_pos n h3),Int.zero_mul]
  have t2:Int.tdiv d ((Nat.gcd n.natAbs d.natAbs:Nat):Int)=((d.natAbs / Nat.gcd n.natAbs d.natAbs:Nat):Int):=by
   obtain ⟨m,rfl⟩:=Int.eq_ofNat_of_zero_le (show 0≤d by omega)
   rfl
  have hd:=qd_if (Rat.divInt n d)
  have hp0:=(Rat.divInt n d).den_pos
  rw [hw] at hcall
  rw [hfr]
  by_cases hn:n < 0
  ·have hp:pre_pk (-n) d (-n) d false (ByteArray.mk #[]) (ByteArray.mk #[]) (decide (n < 0)) (ByteArray.mk #[]) (ByteArray.mk #[]):= ⟨by omega,by omega⟩
   obtain ⟨_,hg⟩:=phi_pk_spec _ _ _ _ _ _ _ _ _ _ hp
   unfold post_pk at hg
   rw [Int.natAbs_neg] at hg
   have t1:Int.tdiv (-n) ((Nat.gcd n.natAbs d.natAbs:Nat):Int)=((n.natAbs / Nat.gcd n.natAbs d.natAbs:Nat):Int):=by
    have: -n=((n.natAbs:Nat):Int):=by omega
    rw [this];rfl
   rw [cond_pk_eq _ _ _ _ _ _ _ _ _ _ hp,hg,t1,t2,← f3,← f4,dF (show ¬ -n=0 by omega),dF (show ¬ ((Nat.gcd n.natAbs d.natAbs:Nat):Int)=0 by omega)] at hcall
   rw [← f3] at l1
   rw [← f4] at l2
   rw [i64T (z:=(((Rat.divInt n d).num.natAbs:Nat):Int)) (by omega),dT (show (0:Int)≤(((Rat.divInt n d).num.natAbs:Nat):Int) by omega),dT (show (((Rat.divInt n d).num.natAbs:Nat):Int) < 72057594037927936 by omega),i64T (z:=(((Rat.divInt n d).den:Nat):Int)) (by omega),dT (show (0:Int)≤(((Rat.divInt n d).den:Nat):Int) by omega),dT (show (((Rat.divInt n d).den:Nat):Int) < 72057594037927936 by omega),Int.toNat_natCast,Int.toNat_natCast] at hcall
   rw [dT hn,cond_true] at hcall
   rw [dT hn] at hs
   rw [hcall]
   by_cases h4:(Rat.divInt n d).den=1
   ·rw [if_pos h4] at hd
    rw [dF (show ¬ (1:Int) < (((Rat.divInt n d).den:Nat):Int) by omega)]
    unfold Qg.rat
    rw [hd,hs];rfl
   ·rw [if_neg h4] at hd
    rw [dT (show (1:Int) < (((Rat.divInt n d).den:Nat):Int) by omega)]
    unfold Qg.rat
    rw [hd,hs];rfl
  ·rw [dF hn,cond_false] at hcall
   rw [dF hn] at hs
   by_cases h0:n=0
   ·rw [dT h0] at hcall
    rw [hcall,h0,Rat.zero_divInt,rat_zero];rfl
   ·have hp:pre_pk n d n d false (ByteArray.mk #[]) (ByteArray.mk #[]) false (ByteArray.mk #[]) (ByteArray.mk #[]):= ⟨by omega,by omega⟩
    obtain ⟨_,hg⟩:=phi_pk_spec _ _ _ _ _ _ _ _ _ _ hp
    unfold post_pk at hg
    have t1:Int.tdiv n ((Nat.gcd n.natAbs d.natAbs:Nat):Int)=((n.natAbs / Nat.gcd n.natAbs d.natAbs:Nat):Int):=by
     have:n=((n.natAbs:Nat):Int):=by omega
     rw [this];rfl
    rw [cond_pk_eq _ _ _ _ _ _ _ _ _ _ hp,hg,t1,t2,← f3,← f4,dF h0,dF (show ¬ ((Nat.gcd n.natAbs d.natAbs:Nat):Int)=0 by omega)] at hcall
    rw [← f3] at l1
    rw [← f4] at l2
    rw [i64T (z:=(((Rat.divInt n d).num.natAbs:Nat):Int)) (by omega),dT (show (0:Int)≤(((Rat.divInt n d).num.natAbs:Nat):Int) by omega),dT (show (((Rat.divInt n d).num.natAbs:Nat):Int) < 72057594037927936 by omega),i64T (z:=(((Rat.divInt n d).den:Nat):Int)) (by omega),dT (show (0:Int)≤(((Rat.divInt n d).den:Nat):Int) by omega),dT (show (((Rat.divInt n d).den:Nat):Int) < 72057594037927936 by omega),Int.toNat_natCast,Int.toNat_natCast] at hcall
    rw [hcall]
    by_cases h4:(Rat.divInt n d).den=1
    ·rw [if_pos h4] at hd
     rw [dF (show ¬ (1:Int) < (((Rat.divInt n d).den:Nat):Int) by omega)]
     unfold Qg.rat
     rw [hd,hs];rfl
    ·rw [if_neg h4] at hd
     rw [dT (show (1:Int) < (((Rat.divInt n d).den:Nat):Int) by omega)]
     unfold Qg.rat
     rw [hd,hs];rfl
 ·cases h
theorem CRp_ok:Meets Tryz.prog (CRp sg0):=((meets_none _).add eROf).add eRAdd
theorem okS (n d:ByteArray) (h:sq0.oks n d=true):sg0.ok n=true∧sg0.ok d=true:=by
 obtain ⟨h1,h2⟩:=qoks_out h
 exact ⟨okq_size (by omega),okq_size (by omega)⟩
theorem eRPair:Entry Tryz.prog 90 (tRPair sg0 sq0):=by
 refine entry_of (E:= ⟨CRp sg0,Kall,noL⟩) (u:=10) (d:=10) CRp_ok loops_none mixed (by kernel_rfl) (fun args r h=> ?_)
 unfold tRPair tR1 at h
 split at h
 ·rename_i b n d
  simp only [Option.some.injEq,Prod.mk.injEq] at h
  obtain ⟨h1,rfl⟩:=h
  obtain ⟨k1,k2⟩:=okS n d h1
  have hv:sg0.val false d=(vS d:Nat):=rfl
  rw [rparts_tree]
  simp only [vnil,Int.add_zero,msnil]
  rw [k1,k2,ok_nil,val_fd]
  unfold dn
  by_cases h0:vS d=0
  ·rw [dT (show sg0.val false d=0 by rw [hv,h0];rfl),if_pos h0];rfl
  ·rw [dF (show ¬ sg0.val false d=0 by rw [hv];omega),if_neg h0,← hv];rfl
 ·cases h
theorem x_ok2 (s:ByteArray):xg0.ok2 s=decide (s.size≤68719476736):=of_eq_true (eq_true rfl)
theorem ok2_ms {z:Int} (h:bs z.natAbs≤68719476736):xg0.ok2 (sg0.ms z)=true:=by rw [x_ok2,size_ms];exact decide_eq_true h
theorem ok2_out {s:ByteArray} (h:xg0.ok2 s=true):s.size≤68719476736:=by rw [x_ok2,decide_eq_true_eq] at h;exact h
theorem eRGcd:Entry Tryz.prog 128 (tGcd2 sg0 xg0):=eRGcdX xg0 rfl rfl
theorem eRDiv:Entry Tryz.prog 129 (tDiv2 sg0 xg0):=eRDivX xg0 rfl rfl rfl rfl
theorem CRe_ok:Meets Tryz.prog (CRe sg0 xg0):=((CRp_ok.add eRDiv).add eRGcd).add eRNeg
theorem ms_is1 {n:Nat} :strEq (sg0.ms (n:Int)) (ByteArray.mk #[(1:UInt8)])=decide (n=1):=by
 have e:ByteArray.mk #[(1:UInt8)]=magOf 1:=(magOf_of_lead (ByteArray.mk #[(1:UInt8)]) (by show ¬ (1:UInt8)=0;decide)).symm
 rw [e,strEq_iff]
 refine decide_eq_decide.2 ?_
 have hm:sg0.ms (n:Int)=magOf n:=rfl
 rw [hm]
 constructor
 ·intro h
  have:=congrArg vS h
  rwa [vS_magOf,vS_magOf] at this
 ·intro h;rw [h]
theorem eReduce:Entry Tryz.prog 95 (tReduce sg0 xg0 sq0):=by
 refine entry_of (E:= ⟨CRe sg0 xg0,Kall,noL⟩) (u:=10) (d:=10) CRe_ok loops_none mixed (by kernel_rfl) (fun args r h=> ?_)
 unfold tReduce at h
 split at h
 ·rename_i b s c t
  simp only [Option.some.injEq,Prod.mk.injEq,Bool.and_eq_true,Bool.not_eq_true',decide_eq_false_iff_not] at h
  obtain ⟨⟨⟨h1,h2⟩,h3⟩,rfl⟩:=h
  have z1:=ok2_out h1
  have z2:=ok2_out h2
  have k1:=bs_val b s
  have k2:=bs_val c t
  have hcall:=reduce_tree sg0 xg0 b c s t
  simp only [val_ms,vnil,Int.add_zero,msnil,x_gcd,x_dq] at hcall
  rw [hcall]
  clear hcall
  generalize sg0.val b s=x at*
  generalize sg0.val c t=y at*
  have n1:=bs_neg x
  have n2:=bs_neg y
  have g1:=bs_zg x y
  have g2:=bs_zg (-x) (-y)
  have hfr:sq0.fr x y=Rat.divInt x y:=rfl
  rw [okq_size (s:=s) (by omega),okq_size (s:=t) (by omega),ok_nil,ok_ms (z:=x) (by omega),ok_ms (z:=y) (by omega),ok2_ms (z:=x) (by omega),ok2_ms (z:=y) (by omega),ok2_ms (z:= -x) (by omega),ok2_ms (z:= -y) (by omega),ok2_ms (z:=zg x y) (by omega),ok2_ms (z:=zg (-x) (-y)) (by omega),hfr]
  by_cases h0:x=0
  ·rw [dT h0,h0,Rat.zero_divInt,rat_zero];rfl
  ·rw [dF h0,ng_eq y]
   have hd:=qd_if (Rat.divInt x y)
   by_cases hy:y < 0
   ·obtain ⟨e1,e2⟩:=zq_fr (-x) (show 0 < -y by omega)
    rw [Rat.neg_divInt_neg] at e1 e2
    rw [dT hy,e1,e2,ms_is1]
    by_cases h4:(Rat.divInt x y).den=1
    ·rw [if_pos h4] at hd
     rw [dT h4]
     unfold Qg.rat
     rw [hd];rfl
    ·rw [if_neg h4] at hd
     rw [dF h4]
     unfold Qg.rat
     rw [hd];rfl
   ·obtain ⟨e1,e2⟩:=zq_fr x (show 0 < y by omega)
    rw [dF hy,e1,e2,ms_is1]
    by_cases h4:(Rat.divInt x y).den=1
    ·rw [if_pos h4] at hd
     rw [dT h4]
     unfold Qg.rat
     rw [hd];rfl
    ·rw [if_neg h4] at hd
     rw [dF h4]
     unfold Qg.rat
     rw [hd];rfl
 ·cases h
theorem CRn_ok:Meets Tryz.prog (CRn sg0 xg0 sq0):=((((meets_none _).add eReduce).add eRPair).add eRPackQ).add eRSmallQ
theorem eRNormal:Entry Tryz.prog 100 (tRNormal sq0):=by
 refine entry_of (E:= ⟨CRn sg0 xg0 sq0,Kall,noL⟩) (u:=10) (d:=10) CRn_ok loops_none mixed (by kernel_rfl) (fun args r h=> ?_)
 unfold tRNormal tR1 at h
 split at h
 ·rename_i b n d
  simp only [Option.some.injEq,Prod.mk.injEq] at h
  obtain ⟨h1,rfl⟩:=h
  obtain ⟨z1,z2⟩:=qoks_out h1
  have k1:=bs_val b n
  have k2:=bs_dn d
  have p1:=dn_pos d
  have hcall:=normal_tree sg0 xg0 sq0 b n d
  have hfr:∀ x y,sq0.fr x y=Rat.divInt x y:=fun x y=>rfl
  simp only [val_ms,val_fd,hfr] at hcall
  have hv:Rat.divInt (sg0.val b n) (dn d)=sq0.qv b n d:=rfl
  rw [h1,hv,ok2_ms (z:=sg0.val b n) (by omega),ok2_ms (z:=dn d) (by omega),dF (show ¬ dn d=0 by omega)] at hcall
  have fin:∀ u:Bool,(u=true→sq0.ms n d=true)→sq0.ms n d=u→callA Tryz.prog ⟨CRn sg0 xg0 sq0,Kall,noL⟩ 10 10 100 [.agg [.val (.bool b), .val (.string n), .val (.string d)]]=some (sq0.rat (sq0.qv b n d)):=by
   intro u hu eu
   rw [hcall,eu]
   cases u
   ·rfl
   ·obtain ⟨_,_,e1,e2,b1,b2⟩:=ms_out (hu rfl) b
    rw [e1,e2,mid_in (z:=sg0.val b n) (by omega),mid_in (z:=dn d) (by omega),dT p1,hv]
    rfl
  exact fin _ id rfl
 ·cases h
theorem CRm_ok:Meets Tryz.prog (CRm sg0 xg0 sq0):=(((((meets_none _).add eRPair).add eRNormal).add eRCompare).add eROf).add eReduce
theorem eRQCheck:Entry Tryz.prog 51 (tR1 sq0 fun b n d=> .val (.int .i64 (sq0.ck b n d))):=by
 refine entry_of (E:= ⟨CRm sg0 xg0 sq0,Kall,noL⟩) (u:=10) (d:=10) CRm_ok loops_none mixed (by kernel_rfl) (fun args r h=> ?_)
 unfold tR1 at h
 split at h
 ·rename_i b n d
  simp only [Option.some.injEq,Prod.mk.injEq] at h
  obtain ⟨h1,rfl⟩:=h
  rw [rqcheck_tree,h1]
  have hck:sq0.ck b n d=bif (b==sq0.qn (sq0.qv b n d))&&strEq n (sq0.qs (sq0.qv b n d))&&strEq d (sq0.qd (sq0.qv b n d)) then 0 else 1:=rfl
  have sw:∀ s t:ByteArray,strEq s t=strEq t s:=fun s t=>by unfold strEq;exact Bool.beq_comm
  rw [hck,sw n,sw d,show (b==sq0.qn (sq0.qv b n d))=(sq0.qn (sq0.qv b n d)==b) from Bool.beq_comm]
  generalize (sq0.qn (sq0.qv b n d)==b)=u1
  generalize strEq (sq0.qs (sq0.qv b n d)) n=u2
  generalize strEq (sq0.qd (sq0.qv b n d)) d=u3
  cases u1 <;> cases u2 <;> cases u3 <;> rfl
 ·cases h
end
end Go.Proofs.YtamcpiicmfielaaGreat.L
namespace Go.Proofs.YtamcpiicmfielaaGreat.L
open Go Go.V Go.RowKit Go.Proofs.YtamcpiicmfielaaGreat.Sp Go.Proofs.YtamcpiicmfielaaGreat.F
open Go.Proofs (Tryz.prog)
noncomputable section
def CRa (S:Sg) (X:Xg) (Z:Qg):FuncId→TF:=addC 93 (tMachine Z) (addC 94 (tRatio0 Z) (addC 90 (tRPair S Z) (addC 95 (tReduce S X Z) (addC 102 (tAdd S) (addC 96 (tMul S) (addC 97 (tCompare S) (addC 100 (tRNormal Z) noC)))))))
theorem CRa_ok:Meets Tryz.prog (CRa sg0 xg0 sq0):=((((((((meets_none _).add eRNormal).add eRCompare).add eRMul).add eRAdd).add eReduce).add eRPair).add eRPackQ).add eRSmallQ
theorem rcmp_tree (S:Sg) (X:Xg) (Z:Qg) (b c:Bool) (n d m e:ByteArray):letI q_2:=(S.val (S.ng (S.val b n)) (S.ms (S.val b n))*S.val (S.ng (S.val false (Z.fd e))) (S.ms (S.val false (Z.fd e))));letI q_3:=(S.val (S.ng (S.val c m)) (S.ms (S.val c m))*S.val (S.ng (S.val false (Z.fd d))) (S.ms (S.val false (Z.fd d))));letI q_1:Option AV:=(bif Z.oks n d then (bif Z.oks m e then (bif S.ok (S.ms (S.val b n))&&S.ok (S.ms (S.val false (Z.fd e))) then (bif S.ok (S.ms (S.val c m))&&S.ok (S.ms (S.val false (Z.fd d))) then (bif S.ok (S.ms q_2)&&S.ok (S.ms q_3) then some (.val (.int .i64 (S.cmz (S.val (S.ng q_2) (S.ms q_2)) (S.val (S.ng q_3) (S.ms q_3))))) else none) else none) else none) else none) else none);
  (callA Tryz.prog ⟨CRa S X Z,Kall,noL⟩ 10 10 48 [.agg [.val (.bool b), .val (.string n), .val (.string d)], .agg [.val (.bool c), .val (.string m), .val (.string e)]]=(bif Z.ms n d then (bif Z.ms m e then (bif inR IntKind.i64 (Z.mn b n d*Z.md m e) then (bif inR IntKind.i64 (Z.mn c m e*Z.md n d) then (bif decide (Z.mn b n d*Z.md m e < Z.mn c m e*Z.md n d) then some (.val (.int .i64 (-1))) else (bif inR IntKind.i64 (Z.mn b n d*Z.md m e) then (bif inR IntKind.i64 (Z.mn c m e*Z.md n d) then (bif decide (Z.mn c m e*Z.md n d < Z.mn b n d*Z.md m e) then some (.val (.int .i64 1)) else some (.val (.int .i64 0))) else none) else none)) else none) else none) else q_1) else q_1)):=by kernel_rfl
end
end Go.Proofs.YtamcpiicmfielaaGreat.L
namespace Go.Proofs.YtamcpiicmfielaaGreat.L
open Go Go.V Go.RowKit Go.Proofs.YtamcpiicmfielaaGreat.Sp Go.Proofs.YtamcpiicmfielaaGreat.F
open Go.Proofs (Tryz.prog)
noncomputable section
theorem two_oks {n d m e:ByteArray} (h1:sq0.oks n d=true) (h2:sq0.oks m e=true):∀ (b c:Bool),
  bs (sg0.val b n).natAbs≤1073741824∧bs (sg0.val c m).natAbs≤1073741824∧bs (dn d).natAbs≤1073741824∧bs (dn e).natAbs≤1073741824:=by
 intro b c
 obtain ⟨z1,z2⟩:=qoks_out h1
 obtain ⟨z3,z4⟩:=qoks_out h2
 have a1:=bs_val b n
 have a2:=bs_val c m
 have a3:=bs_dn d
 have a4:=bs_dn e
 exact ⟨by omega,by omega,by omega,by omega⟩
def tRCmpQ (Z:Qg):TF:=tR2 Z fun x y=> .val (.int .i64 (Z.cq x y))
theorem eRCmpQ:Entry Tryz.prog 48 (tRCmpQ sq0):=by
 refine entry_of (E:= ⟨CRa sg0 xg0 sq0,Kall,noL⟩) (u:=10) (d:=10) CRa_ok loops_none mixed (by kernel_rfl) (fun args r h=> ?_)
 unfold tRCmpQ tR2 at h
 split at h
 ·rename_i b n d c m e
  simp only [Option.some.injEq,Prod.mk.injEq,Bool.and_eq_true] at h
  obtain ⟨⟨h1,h2⟩,rfl⟩:=h
  have hcall:=rcmp_tree sg0 xg0 sq0 b c n d m e
  obtain ⟨k5,k6,k7,k8⟩:=two_oks h1 h2 b c
  have p1:=dn_pos d
  have p2:=dn_pos e
  have hv:sq0.cq (sq0.qv b n d) (sq0.qv c m e)=cmpZ (sg0.val b n*dn e) (sg0.val c m*dn d):=cq_fr _ _ p1 p2
  have q1:=bs_zmul (sg0.val b n) (dn e)
  have q2:=bs_zmul (sg0.val c m) (dn d)
  simp only [val_ms,val_fd] at hcall
  rw [h1,h2,ok_ms (z:=sg0.val b n) (by omega),ok_ms (z:=sg0.val c m) (by omega),ok_ms (z:=dn d) (by omega),ok_ms (z:=dn e) (by omega),ok_ms (z:=sg0.val b n*dn e) (by omega),ok_ms (z:=sg0.val c m*dn d) (by omega)] at hcall
  have hz:sg0.cmz (sg0.val b n*dn e) (sg0.val c m*dn d)=sq0.cq (sq0.qv b n d) (sq0.qv c m e):=hv.symm
  rw [hz] at hcall
  have fin:∀ u v:Bool,(u=true→sq0.ms n d=true)→(v=true→sq0.ms m e=true)→sq0.ms n d=u→sq0.ms m e=v→callA Tryz.prog ⟨CRa sg0 xg0 sq0,Kall,noL⟩ 10 10 48 [.agg [.val (.bool b), .val (.string n), .val (.string d)], .agg [.val (.bool c), .val (.string m), .val (.string e)]]=some (.val (.int .i64 (sq0.cq (sq0.qv b n d) (sq0.qv c m e)))):=by
   intro u v hu hv' eu ev
   rw [hcall,eu,ev]
   cases u
   ·rfl
   ·cases v
    ·rfl
    ·obtain ⟨_,_,e1,e2,b1,b2⟩:=ms_out (hu rfl) b
     obtain ⟨_,_,e3,e4,b3,b4⟩:=ms_out (hv' rfl) c
     rw [e1,e2,e3,e4]
     have m1:=mul24 (x:=sg0.val b n) (y:=dn e) b1 (by omega)
     have m2:=mul24 (x:=sg0.val c m) (y:=dn d) b3 (by omega)
     rw [i64T (z:=sg0.val b n*dn e) (by omega),i64T (z:=sg0.val c m*dn d) (by omega),hv]
     unfold cmpZ
     by_cases g1:sg0.val b n*dn e < sg0.val c m*dn d
     ·rw [dT g1,if_pos g1];rfl
     ·rw [dF g1,if_neg g1]
      by_cases g2:sg0.val c m*dn d < sg0.val b n*dn e
      ·rw [dT g2,if_pos g2];rfl
      ·rw [dF g2,if_neg g2];rfl
  exact fin _ _ id id rfl rfl
 ·cases h
end
end Go.Proofs.YtamcpiicmfielaaGreat.L
