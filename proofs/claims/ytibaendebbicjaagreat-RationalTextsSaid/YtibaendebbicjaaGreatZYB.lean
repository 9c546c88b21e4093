import Derived.Test.YtibaendebbicjaaGreatZL
import Derived.Test.YtibaendebbicjaaGreatZYA
import Derived.Test.YtibaendebbicjaaGreatZMD
set_option linter.unusedVariables false
set_option linter.unusedSimpArgs false
namespace Go.Proofs.YtibaendebbicjaaGreat.L
open Go Go.V Go.RowKit Go.Proofs.YtibaendebbicjaaGreat.Sp Go.Proofs.YtibaendebbicjaaGreat.F
open Go.Proofs (Tryz.prog)
noncomputable section
abbrev p_ma:List Bool:= [false,true,false,true,true,true]
def sh_ma (y:Int) (zs:List Int) (c:Int) (xs:List Int) (n:Int) (i:Int):List AV:=slots 44 [(1, .val (.int .u32 y)),(7, .sl false 58 0 0 zs.length),(8, .val (.int .u64 c)),(17, .lst false 58 xs.length (lim xs)),(18, .val (.int .i64 n)),(19, .val (.int .i64 i))]
def hp_ma (y:Int) (zs:List Int) (c:Int) (xs:List Int) (n:Int) (i:Int):Hp:= [.row (.ints .u32 zs) 58 .live]
theorem body_ma:subC Tryz.prog 36 p_ma=some (.loop (lb 36 p_ma)):=by kernel_rfl
theorem code_ma:subC Tryz.prog 36 (false :: p_ma)=some (lb 36 p_ma):=by kernel_rfl
theorem round_ma (y:Int) (zs:List Int) (c:Int) (xs:List Int) (n:Int) (i:Int):roundA Tryz.prog EL0 36 [1,7,8,17,18,19] (lb 36 p_ma) (false :: p_ma) (sh_ma y zs c xs n i) (hp_ma y zs c xs n i)=
  (bif decide (i < n) then (bif decide ((0:Int)≤i)&&decide (i < (↑xs.length:Int)) then (bif inR IntKind.u64 (xs.getD i.toNat (0:Int)) then (bif inR IntKind.u64 y then (bif decide (zs.length*(1:Nat)≤zs.length)&&roomA Tryz.prog (zs.length+(1:Nat)) (58:Nat)&&true then (bif inR IntKind.i64 (i+(1:Int)) then some (.normal,slots 44 [(1,(.val (.int .u32 y))),(7,(.sl false 58 0 0 (zs.length+(1:Nat)))),(8,(.val (.int .u64 ((IntKind.u64.wrap (c+IntKind.u64.wrap (xs.getD i.toNat (0:Int)*y))).fdiv (4294967296:Int))))),(17,(.lst false 58 xs.length (lim xs))),(18,(.val (.int .i64 n))),(19,(.val (.int .i64 (i+(1:Int)))))], [(.row (.ints .u32 (List.take (zs.length*(1:Nat)) zs ++ [IntKind.u32.wrap (IntKind.u64.wrap (c+IntKind.u64.wrap (xs.getD i.toNat (0:Int)*y)))])) 58 .live)]) else none) else none) else none) else none) else none) else some ((.exit 0),slots 44 [(1,(.val (.int .u32 y))),(7,(.sl false 58 0 0 zs.length)),(8,(.val (.int .u64 c))),(17,(.lst false 58 xs.length (lim xs))),(18,(.val (.int .i64 n))),(19,(.val (.int .i64 i)))], [(.row (.ints .u32 zs) 58 .live)])):=by kernel_rfl
theorem step_ma {y:Int} {zs:List Int} {c:Int} {xs:List Int} {n:Int} {i:Int} {e:Ex} {T:List AV} {H:Hp} (h:roundA Tryz.prog EL0 36 [1,7,8,17,18,19] (lb 36 p_ma) (false :: p_ma) (sh_ma y zs c xs n i) (hp_ma y zs c xs n i)=some (e,T,H)):V.Ends Tryz.prog false 0 0 (lb 36 p_ma) (sh_ma y zs c xs n i) (hp_ma y zs c xs n i) e T H:=
 round_ends (meets_none _) loops_none mixed code_ma h
def pre_ma (y:Int) (zs:List Int) (c:Int) (xs:List Int) (n i:Int):Prop:=okL xs∧xs.length≤8796093022208∧n=xs.length∧i=0∧zs= []∧0≤y∧y < 4294967296∧0≤c∧c < 4294967296
def post_ma (y:Int) (zs:List Int) (c:Int) (xs:List Int) (n i:Int) (r:List Int×Int×Int):Prop:=okL r.1∧r.1.length=xs.length∧∃ k:Nat,k < 4294967296∧r.2.1=k∧vL r.1+4294967296 ^ xs.length*k=vL xs*y.toNat+c.toNat
theorem ma_go (xs:List Int) (y a:Nat) (hl:okL xs) (hb:xs.length≤8796093022208) (hy:y < 4294967296) (d:Nat):∀ (i c:Nat) (out:List Int),i+d=xs.length→okL out→out.length=i→c < 4294967296→
  vL out+4294967296 ^ i*c=vL (xs.take i)*y+a→
  ∃ r:List Int×Int×Int,LoopTo Tryz.prog (lb 36 p_ma) (sh_ma y out c xs xs.length i) (hp_ma y out c xs xs.length i) (.exit 0) (sh_ma y r.1 r.2.1 xs xs.length r.2.2) (hp_ma y r.1 r.2.1 xs xs.length r.2.2)∧
   okL r.1∧r.1.length=xs.length∧∃ k:Nat,k < 4294967296∧r.2.1=k∧vL r.1+4294967296 ^ xs.length*k=vL xs*y+a:=by
 induction d with
 | zero=>
  intro i c out hi hok hlen hc hv
  have hi':i=xs.length:=by omega
  subst hi'
  refine ⟨(out,(c:Int),(xs.length:Int)), .last (step_ma ?_) (by intro h;cases h),hok,hlen,c,hc,rfl, ?_⟩
  ·rw [round_ma,dF (show ¬ ((xs.length:Int) < xs.length) by omega)]
   rfl
  ·rw [hv,List.take_length]
 | succ d ih=>
  intro i c out hi hok hlen hc hv
  have hil:i < xs.length:=by omega
  obtain ⟨x,hx,hex,hrx⟩:=getD_limb hl i hil
  have ht:=vL_take_succ xs i hil
  rw [hex,Int.toNat_natCast] at ht
  have hxy:x*y≤4294967295*4294967295:=Nat.mul_le_mul (by omega) (by omega)
  have hr:=round_ma y out c xs xs.length i
  have e1:(x:Int)*(y:Int)=((x*y:Nat):Int):=(Int.natCast_mul _ _).symm
  rw [Int.toNat_natCast,hrx,e1,u64w',Nat.mod_eq_of_lt (show x*y < 18446744073709551616 by omega),← Int.natCast_add,u64w',Nat.mod_eq_of_lt (show c+x*y < 18446744073709551616 by omega),u32w,fdiv32,dT (show (i:Int) < xs.length by omega),dT (show (0:Int)≤(i:Int) by omega),u64T (show 0≤(x:Int)∧(x:Int)≤18446744073709551615 by omega),u64T (show 0≤(y:Int)∧(y:Int)≤18446744073709551615 by omega),i64T (show -9223372036854775808≤(i:Int)+1∧(i:Int)+1≤9223372036854775807 by omega),Nat.mul_one,dT (Nat.le_refl out.length),room64 _ (show out.length+1≤35184372088832 by omega),List.take_length] at hr
  have hs:vL (out ++ [(((c+x*y) % 4294967296:Nat):Int)])+4294967296 ^ (i+1)*((c+x*y) / 4294967296)=vL (xs.take (i+1))*y+a:=by
   rw [vL_snoc,hlen,Int.toNat_natCast,Nat.pow_succ,ht]
   have h1:=carry_step (n:=c+x*y) hv
   have h2:(vL (xs.take i)+4294967296 ^ i*x)*y=vL (xs.take i)*y+4294967296 ^ i*(x*y):=by rw [Nat.add_mul,Nat.mul_assoc]
   rw [h2]
   rw [Nat.mul_add (4294967296 ^ i) c] at h1
   omega
  obtain ⟨r,h1,h2⟩:=ih (i+1) ((c+x*y) / 4294967296) (out ++ [(((c+x*y) % 4294967296:Nat):Int)]) (by omega) (okL_append.2 ⟨hok,by rw [okL_cons];exact ⟨limbN _,okL_nil⟩⟩) (by simp [hlen]) (by rw [Nat.div_lt_iff_lt_mul (by decide)];omega) hs
  refine ⟨r, .more (step_ma (hr.trans ?_)) h1,h2⟩
  unfold sh_ma hp_ma
  rw [List.length_append]
  rfl
theorem loop_ma (y:Int) (zs:List Int) (c:Int) (xs:List Int) (n i:Int) (h:pre_ma y zs c xs n i):∃ r:List Int×Int×Int,LoopTo Tryz.prog (lb 36 p_ma) (sh_ma y zs c xs n i) (hp_ma y zs c xs n i) (.exit 0) (sh_ma y r.1 r.2.1 xs n r.2.2) (hp_ma y r.1 r.2.1 xs n r.2.2)∧post_ma y zs c xs n i r:=by
 obtain ⟨h1,h2,rfl,rfl,rfl,h3,h4,h5,h6⟩:=h
 obtain ⟨y,rfl⟩:=Int.eq_ofNat_of_zero_le h3
 obtain ⟨c,rfl⟩:=Int.eq_ofNat_of_zero_le h5
 exact ma_go xs y c h1 h2 (by omega) xs.length 0 c [] (by omega) okL_nil rfl (by omega) (by simp [vL_nil])
def told_ma (κ:Int→List Int→Int→List Int→Int→Int→Bool) (φ:Int→List Int→Int→List Int→Int→Int→List Int×Int×Int) (T:List AV) (H:Hp):Option (Bool×Ex×List AV×Hp):=
 match lget T 1,lget T 7,lget T 8,lget T 17,lget T 18,lget T 19,H with
 | .val (.int .u32 y), .sl false 58 0 0 m_zs, .val (.int .u64 c), .lst false 58 m_xs f_xs, .val (.int .i64 n), .val (.int .i64 i), [.row (.ints .u32 zs) 58 .live]=>bif T.length==44 then some (okB m_xs f_xs&&decide (m_zs=zs.length)&&κ y zs c (rowOf m_xs f_xs) n i, .exit 0,sh_ma y ((φ y zs c (rowOf m_xs f_xs) n i).1) ((φ y zs c (rowOf m_xs f_xs) n i).2.1) (rowOf m_xs f_xs) n ((φ y zs c (rowOf m_xs f_xs) n i).2.2),hp_ma y ((φ y zs c (rowOf m_xs f_xs) n i).1) ((φ y zs c (rowOf m_xs f_xs) n i).2.1) (rowOf m_xs f_xs) n ((φ y zs c (rowOf m_xs f_xs) n i).2.2)) else none
 | _,_,_,_,_,_,_=>none
abbrev KT_ma:Type:=Int→List Int→Int→List Int→Int→Int→Bool
abbrev FT_ma:Type:=Int→List Int→Int→List Int→Int→Int→List Int×Int×Int
def LL_ma (κ:KT_ma) (φ:FT_ma) (L:LTab):LTab:=addLn 0 36 p_ma [1,7,8,17,18,19] (told_ma κ φ) L
def phi_ma (y:Int) (zs:List Int) (c:Int) (xs:List Int) (n:Int) (i:Int):List Int×Int×Int:=Classical.epsilon fun ρ=>LoopTo Tryz.prog (lb 36 p_ma) (sh_ma y zs c xs n i) (hp_ma y zs c xs n i) (.exit 0) (sh_ma y (ρ.1) (ρ.2.1) xs n (ρ.2.2)) (hp_ma y (ρ.1) (ρ.2.1) xs n (ρ.2.2))∧post_ma y zs c xs n i ρ
theorem phi_ma_spec (y:Int) (zs:List Int) (c:Int) (xs:List Int) (n:Int) (i:Int) (h:pre_ma y zs c xs n i):LoopTo Tryz.prog (lb 36 p_ma) (sh_ma y zs c xs n i) (hp_ma y zs c xs n i) (.exit 0) (sh_ma y ((phi_ma y zs c xs n i).1) ((phi_ma y zs c xs n i).2.1) xs n ((phi_ma y zs c xs n i).2.2)) (hp_ma y ((phi_ma y zs c xs n i).1) ((phi_ma y zs c xs n i).2.1) xs n ((phi_ma y zs c xs n i).2.2))∧post_ma y zs c xs n i (phi_ma y zs c xs n i):=Classical.epsilon_spec (loop_ma y zs c xs n i h)
def cond_ma (y:Int) (zs:List Int) (c:Int) (xs:List Int) (n:Int) (i:Int):Bool:= @decide (pre_ma y zs c xs n i) (Classical.propDecidable _)
theorem cond_ma_eq (y:Int) (zs:List Int) (c:Int) (xs:List Int) (n:Int) (i:Int) (h:pre_ma y zs c xs n i):cond_ma y zs c xs n i=true:= @decide_eq_true _ (Classical.propDecidable _) h
theorem told_ma_ok (T:List AV) (H:Hp) (e:Ex) (T1:List AV) (H1:Hp) (h:told_ma cond_ma phi_ma T H=some (true,e,T1,H1)):V.Ends Tryz.prog false 0 0 (.loop (lb 36 p_ma)) T H e T1 H1:=by
 unfold told_ma at h
 split at h
 ·rename_i y m_zs c m_xs f_xs n i zs h1 h7 h8 h17 h18 h19
  rw [Bool.cond_eq_ite] at h
  split at h
  ·rename_i hlen
   rw [beq_iff_eq] at hlen
   simp only [Option.some.injEq,Prod.mk.injEq,Bool.and_eq_true,decide_eq_true_eq] at h
   obtain ⟨⟨⟨k1,k2⟩,k3⟩,rfl,rfl,rfl⟩:=h
   have kc:= @of_decide_eq_true _ (Classical.propDecidable _) k3
   refine Ends.pre (phi_ma_spec y zs c (rowOf m_xs f_xs) n i kc).1.ends (fun α B w D ys hr=>slots_rel hlen (fun p hp y hy=> ?_) hr)
   simp only [List.mem_cons,List.not_mem_nil,or_false] at hp
   rcases hp with rfl | rfl | rfl | rfl | rfl | rfl
   ·rw [h1] at hy;exact hy
   ·rw [h7] at hy;rw [← k2];exact hy
   ·rw [h8] at hy;exact hy
   ·rw [h17] at hy;rw [rowOf_len];exact row_norm cells58 k1 hy
   ·rw [h18] at hy;exact hy
   ·rw [h19] at hy;exact hy
  ·cases h
 ·cases h
theorem LL_ma_ok {L:LTab} (h:LOk Tryz.prog L):LOk Tryz.prog (LL_ma cond_ma phi_ma L):=h.add2n body_ma told_ma_ok
theorem ma_call (S:Sg) (κ:KT_ma) (φ:FT_ma) (xs:List Int) (y a:Int):letI q_1:=(φ y [] a (rowOf xs.length (lim xs)) (↑xs.length:Int) (0:Int));letI q_2:=(List.take (q_1.fst.length*(1:Nat)) q_1.fst ++ [IntKind.u32.wrap q_1.snd.fst]);letI q_3:=(q_1.fst.length+(1:Nat));
  (callA Tryz.prog ⟨addC 66 (tTrim S) noC,Kall,LL_ma κ φ noL⟩ 10 10 36 [.lst false 58 xs.length (lim xs), .val (.int .u32 y), .val (.int .u32 a)]=(bif inR IntKind.i64 ((↑xs.length:Int)+(1:Int)) then (bif decide ((4:Int)*((↑xs.length:Int)+(1:Int))≤(281474976710656:Int))&&decide ((↑xs.length:Int)+(1:Int)≤(9223372036854775807:Int)) then (bif inR IntKind.u64 a then (bif okB xs.length (lim xs)&&true&&κ y [] a (rowOf xs.length (lim xs)) (↑xs.length:Int) (0:Int) then (bif decide (q_1.fst.length*(1:Nat)≤q_1.fst.length)&&roomA Tryz.prog q_3 (58:Nat)&&true then (bif decide ((0:Nat)+q_3*(1:Nat)≤q_2.length) then (bif S.okr q_3 (lim q_2) then some (.lst false 58 (S.len (S.num q_3 (lim q_2))) (S.row (S.num q_3 (lim q_2)))) else none) else none) else none) else none) else none) else none) else none)):=by kernel_rfl
def tMuladd (S:Sg):List AV→Option (Bool×AV):=fun args=>match args with | [.lst _ 58 m f, .val (.int .u32 y), .val (.int .u32 a)]=>some (S.oks m f&&inU y&&inU a,S.lmb (S.num m f*y.toNat+a.toNat)) | _=>none
theorem eMuladd:Entry Tryz.prog 36 (tMuladd sg0):=by
 refine entry_to (E:= ⟨addC 66 (tTrim sg0) noC,Kall,LL_ma cond_ma phi_ma noL⟩) (u:=10) (d:=10) ((meets_none _).add eTrim) (LL_ma_ok LOk.none).ok (by kernel_rfl) (fun args r h=> ?_)
 unfold tMuladd at h
 split at h
 ·rename_i m f y a
  simp only [Option.some.injEq,Prod.mk.injEq,Bool.and_eq_true] at h
  obtain ⟨⟨⟨h1,h2⟩,h3⟩,rfl⟩:=h
  obtain ⟨a1,a2,a3,a4⟩:=oks_out h1
  unfold inU at h2 h3
  rw [Bool.and_eq_true,decide_eq_true_eq,decide_eq_true_eq] at h2 h3
  have hp:pre_ma y [] a (rowOf m f) (rowOf m f).length 0:= ⟨a2,a3,rfl,rfl,rfl,h2.1,h2.2,h3.1,h3.2⟩
  have hs:=(phi_ma_spec _ _ _ _ _ _ hp).2
  have hcall:=ma_call sg0 cond_ma phi_ma (rowOf m f) y a
  have key:callA Tryz.prog ⟨addC 66 (tTrim sg0) noC,Kall,LL_ma cond_ma phi_ma noL⟩ 10 10 36 [.lst false 58 (rowOf m f).length (lim (rowOf m f)), .val (.int .u32 y), .val (.int .u32 a)]=some (sg0.lmb (vL (rowOf m f)*y.toNat+a.toNat)):=by
   rw [hcall]
   simp only [rowOf_lim',Nat.mul_one,Nat.zero_add]
   rw [cond_ma_eq _ _ _ _ _ _ hp,okB_lim a2]
   generalize phi_ma y [] a (rowOf m f) (rowOf m f).length 0=r at*
   obtain ⟨g1,g2,k,g3,g4,g5⟩:=hs
   have e:IntKind.u32.wrap r.2.1=(k:Int):=by rw [g4,u32w,Nat.mod_eq_of_lt (by omega)]
   have l1:(r.1 ++ [(k:Int)]).length=r.1.length+1:=by rw [List.length_append];rfl
   have o1:okL (r.1 ++ [(k:Int)]):=okL_append.2 ⟨g1,by rw [okL_cons];exact ⟨by omega,okL_nil⟩⟩
   have v1:vL (r.1 ++ [(k:Int)])=vL (rowOf m f)*y.toNat+a.toNat:=by rw [vL_snoc,g2,Int.toNat_natCast,g5]
   rw [e,List.take_length,l1,i64T (z:=((rowOf m f).length:Int)+1) (by omega),dT (show (4:Int)*(((rowOf m f).length:Int)+1)≤281474976710656 by omega),dT (show ((rowOf m f).length:Int)+1≤9223372036854775807 by omega),u64T (show 0≤a∧a≤18446744073709551615 by omega),room64 _ (by omega),dT (Nat.le_refl r.1.length),dT (Nat.le_refl (r.1.length+1)),← l1,okr_lim o1 (by omega),num_lim,v1]
   rfl
  refine ⟨_,_,key,fun B w ys hr=> ?_,fun B w y hr=>by rw [a4];exact hr⟩
  obtain ⟨q,zs,rfl,q1,q2⟩:=hr
  exact ⟨q,_,rfl,norm_row a1 q1,q2⟩
 ·cases h
end
end Go.Proofs.YtibaendebbicjaaGreat.L
namespace Go.Proofs.YtibaendebbicjaaGreat.L
open Go Go.V Go.RowKit Go.Proofs.YtibaendebbicjaaGreat.Sp Go.Proofs.YtibaendebbicjaaGreat.F
open Go.Proofs (Tryz.prog)
noncomputable section
def okd (d:ByteArray) (i:Nat):Prop:=48≤byteAt d i∧byteAt d i≤57
def dig (d:ByteArray) (i:Nat):Nat:=(byteAt d i).toNat - 48
def vT (d:ByteArray):Nat→Nat
 | 0=>0
 | i+1=>vT d i*10+dig d i
theorem dig_lt {d:ByteArray} {i:Nat} (h:okd d i):dig d i < 10:=by have:=h.1;have:=h.2;unfold dig;omega
theorem vT_lt {d:ByteArray} :∀ {i:Nat},(∀ j,j < i→okd d j)→vT d i < 10 ^ i
 | 0,_=>by show 0 < 1;decide
 | i+1,h=>by
  have h1:=vT_lt (d:=d) (i:=i) (fun j hj=>h j (by omega))
  have h2:=dig_lt (h i (by omega))
  show vT d i*10+dig d i < _
  rw [Nat.pow_succ]
  omega
abbrev p_iP:List Bool:= [false,true,false,true,false,true,false,false,true,false,true,true,true,true,true]
def sh_iP (er:Int) (d:ByteArray) (ng:Bool) (xs:List Int) (i:Int) (n:Int) (y:Int) (k:Int) (rb:Bool) (rs:ByteArray):List AV:=slots 78 [(2, .ptr 0 0),(3, .val (.int .i64 er)),(4, .val (.string d)),(5, .val (.bool ng)),(6, .lst false 58 xs.length (lim xs)),(7, .val (.int .i64 i)),(8, .val (.int .u32 n)),(9, .val (.int .u32 y)),(10, .val (.int .i64 k))]
def hp_iP (er:Int) (d:ByteArray) (ng:Bool) (xs:List Int) (i:Int) (n:Int) (y:Int) (k:Int) (rb:Bool) (rs:ByteArray):Hp:= [.row (.cells [.val (.bool rb), .val (.string rs)]) 38 .live]
theorem body_iP:subC Tryz.prog 16 p_iP=some (.loop (lb 16 p_iP)):=by kernel_rfl
theorem code_iP:subC Tryz.prog 16 (false :: p_iP)=some (lb 16 p_iP):=by kernel_rfl
theorem round_iP (er:Int) (d:ByteArray) (ng:Bool) (xs:List Int) (i:Int) (n:Int) (y:Int) (k:Int) (rb:Bool) (rs:ByteArray):
  (roundA Tryz.prog EL0 16 [2,3,4,5,6,7,8,9,10] (lb 16 p_iP) (false :: p_iP) (sh_iP er d ng xs i n y k rb rs) (hp_iP er d ng xs i n y k rb rs)=(bif decide (k < (9:Int)) then (bif decide (i < (↑d.size:Int)) then (bif decide ((0:Int)≤i)&&decide (i < (↑d.size:Int)) then (bif decide (byteAt d i.toNat < (48:Int)) then some (.ret,slots 78 [(2,(.ptr 0 0)),(3,(.val (.int .i64 3))),(4,(.val (.string d))),(5,(.val (.bool ng))),(6,(.lst false 58 xs.length (lim xs))),(7,(.val (.int .i64 i))),(8,(.val (.int .u32 n))),(9,(.val (.int .u32 y))),(10,(.val (.int .i64 k)))], [(.row (.cells [(.val (.bool false)),(.val (.string (ByteArray.mk #[])))]) 38 .live)]) else (bif decide ((57:Int) < byteAt d i.toNat) then some (.ret,slots 78 [(2,(.ptr 0 0)),(3,(.val (.int .i64 3))),(4,(.val (.string d))),(5,(.val (.bool ng))),(6,(.lst false 58 xs.length (lim xs))),(7,(.val (.int .i64 i))),(8,(.val (.int .u32 n))),(9,(.val (.int .u32 y))),(10,(.val (.int .i64 k)))], [(.row (.cells [(.val (.bool false)),(.val (.string (ByteArray.mk #[])))]) 38 .live)]) else (bif inR IntKind.u32 (IntKind.u8.wrap (byteAt d i.toNat - (48:Int))) then (bif inR IntKind.i64 (i+(1:Int)) then (bif inR IntKind.i64 (k+(1:Int)) then some (.normal,slots 78 [(2,(.ptr 0 0)),(3,(.val (.int .i64 er))),(4,(.val (.string d))),(5,(.val (.bool ng))),(6,(.lst false 58 xs.length (lim xs))),(7,(.val (.int .i64 (i+(1:Int))))),(8,(.val (.int .u32 (IntKind.u32.wrap (IntKind.u32.wrap ((10:Int)*n)+IntKind.u8.wrap (byteAt d i.toNat - (48:Int))))))),(9,(.val (.int .u32 (IntKind.u32.wrap ((10:Int)*y))))),(10,(.val (.int .i64 (k+(1:Int)))))], [(.row (.cells [(.val (.bool rb)),(.val (.string rs))]) 38 .live)]) else none) else none) else none))) else none) else some ((.exit 2),slots 78 [(2,(.ptr 0 0)),(3,(.val (.int .i64 er))),(4,(.val (.string d))),(5,(.val (.bool ng))),(6,(.lst false 58 xs.length (lim xs))),(7,(.val (.int .i64 i))),(8,(.val (.int .u32 n))),(9,(.val (.int .u32 y))),(10,(.val (.int .i64 k)))], [(.row (.cells [(.val (.bool rb)),(.val (.string rs))]) 38 .live)])) else some ((.exit 2),slots 78 [(2,(.ptr 0 0)),(3,(.val (.int .i64 er))),(4,(.val (.string d))),(5,(.val (.bool ng))),(6,(.lst false 58 xs.length (lim xs))),(7,(.val (.int .i64 i))),(8,(.val (.int .u32 n))),(9,(.val (.int .u32 y))),(10,(.val (.int .i64 k)))], [(.row (.cells [(.val (.bool rb)),(.val (.string rs))]) 38 .live)]))):=by kernel_rfl
theorem step_iP {er:Int} {d:ByteArray} {ng:Bool} {xs:List Int} {i:Int} {n:Int} {y:Int} {k:Int} {rb:Bool} {rs:ByteArray} {e:Ex} {T:List AV} {H:Hp} (h:roundA Tryz.prog EL0 16 [2,3,4,5,6,7,8,9,10] (lb 16 p_iP) (false :: p_iP) (sh_iP er d ng xs i n y k rb rs) (hp_iP er d ng xs i n y k rb rs)=some (e,T,H)):V.Ends Tryz.prog false 0 0 (lb 16 p_iP) (sh_iP er d ng xs i n y k rb rs) (hp_iP er d ng xs i n y k rb rs) e T H:=
 round_ends (meets_none _) loops_none mixed code_iP h
abbrev p_iQ:List Bool:= [false,true,false,true,false,true,false,false,true,false,true,true,true,true,true]
def sh_iQ (er:Int) (d:ByteArray) (ng:Bool) (xs:List Int) (i:Int) (n:Int) (y:Int) (k:Int) (rb:Bool) (rs:ByteArray):List AV:=slots 78 [(2, .ptr 0 0),(3, .val (.int .i64 er)),(4, .val (.string d)),(5, .val (.bool ng)),(6, .lst false 58 xs.length (lim xs)),(7, .val (.int .i64 i)),(8, .val (.int .u32 n)),(9, .val (.int .u32 y)),(10, .val (.int .i64 k))]
def hp_iQ (er:Int) (d:ByteArray) (ng:Bool) (xs:List Int) (i:Int) (n:Int) (y:Int) (k:Int) (rb:Bool) (rs:ByteArray):Hp:= [.row (.cells [.val (.bool rb), .val (.string rs)]) 38 .live]
theorem body_iQ:subC Tryz.prog 16 p_iQ=some (.loop (lb 16 p_iQ)):=by kernel_rfl
def pre_iP (er:Int) (d:ByteArray) (ng:Bool) (xs:List Int) (i n y k:Int) (rb:Bool) (rs:ByteArray):Prop:=n=0∧y=1∧k=0∧∃ j:Nat,i=j∧j < d.size∧d.size≤1000000∧∀ l,j≤l→l < j+9→l < d.size→okd d l
def grp (d:ByteArray) (j:Nat) (ρ:Int×Int×Int×Int):Prop:=∃ k' n':Nat,ρ.1=((j+k':Nat):Int)∧0 < k'∧k'≤9∧j+k'≤d.size∧ρ.2.1=n'∧n' < 10 ^ k'∧ρ.2.2.1=((10 ^ k':Nat):Int)∧vT d (j+k')=vT d j*10 ^ k'+n'
def post_iP (er:Int) (d:ByteArray) (ng:Bool) (xs:List Int) (i n y k:Int) (rb:Bool) (rs:ByteArray) (ρ:Int×Int×Int×Int):Prop:=grp d i.toNat ρ
theorem p9 {k:Nat} (h:k≤9):10 ^ k≤1000000000:=Nat.le_trans (Nat.pow_le_pow_right (by decide) h) (by decide)
theorem iP_dig (er:Int) (d:ByteArray) (ng:Bool) (xs:List Int) (rb:Bool) (rs:ByteArray) {j k n:Nat} (hk:k < 9) (hj:j < d.size) (hd:d.size≤1000000) (ho:okd d j) (hn:n < 10 ^ k):
  roundA Tryz.prog EL0 16 [2,3,4,5,6,7,8,9,10] (lb 16 p_iP) (false :: p_iP) (sh_iP er d ng xs j n ((10 ^ k:Nat):Int) k rb rs) (hp_iP er d ng xs j n ((10 ^ k:Nat):Int) k rb rs)=some (.normal,sh_iP er d ng xs ((j+1:Nat):Int) ((n*10+dig d j:Nat):Int) ((10 ^ (k+1):Nat):Int) ((k+1:Nat):Int) rb rs,hp_iP er d ng xs ((j+1:Nat):Int) ((n*10+dig d j:Nat):Int) ((10 ^ (k+1):Nat):Int) ((k+1:Nat):Int) rb rs):=by
 have h9:=p9 (show k≤9 by omega)
 have h91:=p9 (show k+1≤9 by omega)
 rw [Nat.pow_succ] at h91 ⊢
 obtain ⟨o1,o2⟩:=ho
 have hdg:dig d j=(byteAt d j).toNat - 48:=rfl
 generalize hp:10 ^ k=p at*
 rw [round_iP,Int.toNat_natCast]
 generalize hb:byteAt d j=b at*
 obtain ⟨c,rfl⟩:=Int.eq_ofNat_of_zero_le (show 0≤b by omega)
 have e1:IntKind.u8.wrap ((c:Int) - 48)=((c - 48:Nat):Int):=by rw [IntKind.wrap_u8];omega
 have e2:IntKind.u32.wrap (10*(n:Int))=((n*10:Nat):Int):=by rw [IntKind.wrap_u32];omega
 have e3:IntKind.u32.wrap (((n*10:Nat):Int)+((c - 48:Nat):Int))=((n*10+(c - 48):Nat):Int):=by rw [IntKind.wrap_u32];omega
 have e4:IntKind.u32.wrap (10*((p:Nat):Int))=((p*10:Nat):Int):=by rw [IntKind.wrap_u32];omega
 rw [Int.toNat_natCast] at hdg
 rw [e1,e2,e3,e4,hdg,dT (show (k:Int) < 9 by omega),dT (show (j:Int) < (d.size:Int) by omega),dT (show (0:Int)≤(j:Int) by omega),dF (show ¬ (c:Int) < 48 by omega),dF (show ¬ (57:Int) < (c:Int) by omega),u32T (z:=((c - 48:Nat):Int)) (by omega),i64T (z:=(j:Int)+1) (by omega),i64T (z:=(k:Int)+1) (by omega)]
 rfl
theorem iP_go (er:Int) (d:ByteArray) (ng:Bool) (xs:List Int) (rb:Bool) (rs:ByteArray) (j:Nat) (hj:j < d.size) (hd:d.size≤1000000) (ho:∀ l,j≤l→l < j+9→l < d.size→okd d l) (m:Nat):∀ (k n:Nat),k+m=9→j+k≤d.size→n < 10 ^ k→vT d (j+k)=vT d j*10 ^ k+n→(k=0→True)→
  ∃ ρ:Int×Int×Int×Int,LoopTo Tryz.prog (lb 16 p_iP) (sh_iP er d ng xs ((j+k:Nat):Int) n ((10 ^ k:Nat):Int) k rb rs) (hp_iP er d ng xs ((j+k:Nat):Int) n ((10 ^ k:Nat):Int) k rb rs) (.exit 2) (sh_iP er d ng xs ρ.1 ρ.2.1 ρ.2.2.1 ρ.2.2.2 rb rs) (hp_iP er d ng xs ρ.1 ρ.2.1 ρ.2.2.1 ρ.2.2.2 rb rs)∧grp d j ρ:=by
 have fin:∀ (k n:Nat),k≤9→0 < k→j+k≤d.size→n < 10 ^ k→vT d (j+k)=vT d j*10 ^ k+n→grp d j (((j+k:Nat):Int),(n:Int),((10 ^ k:Nat):Int),(k:Int)):=fun k n h1 h0 h2 h3 h4=> ⟨k,n,rfl,h0,h1,h2,rfl,h3,rfl,h4⟩
 induction m with
 | zero=>
  intro k n hk h1 h2 h3 _
  have hk:k=9:=by omega
  subst hk
  refine ⟨_, .last (step_iP ?_) (by intro h;cases h),fin 9 n (Nat.le_refl _) (by decide) h1 h2 h3⟩
  rw [round_iP,dF (show ¬ ((9:Nat):Int) < 9 by decide)]
  rfl
 | succ m ih=>
  intro k n hk h1 h2 h3 _
  by_cases hs:j+k < d.size
  ·have hok:=ho (j+k) (by omega) (by omega) hs
   have hdl:=dig_lt hok
   obtain ⟨ρ,g1,g2⟩:=ih (k+1) (n*10+dig d (j+k)) (by omega) (by omega) (by rw [Nat.pow_succ];omega) (by
    show vT d (j+k)*10+dig d (j+k)=_
    rw [h3,Nat.pow_succ,Nat.add_mul,Nat.mul_assoc];omega) (fun h=>trivial)
   exact ⟨ρ, .more (step_iP (iP_dig er d ng xs rb rs (by omega) hs hd hok h2)) g1,g2⟩
  ·have hk0:0 < k:=by omega
   refine ⟨_, .last (step_iP ?_) (by intro h;cases h),fin k n (by omega) hk0 h1 h2 h3⟩
   rw [round_iP,dT (show (k:Int) < 9 by omega),dF (show ¬ ((j+k:Nat):Int) < (d.size:Int) by omega)]
   rfl
theorem loop_iP (er:Int) (d:ByteArray) (ng:Bool) (xs:List Int) (i n y k:Int) (rb:Bool) (rs:ByteArray) (h:pre_iP er d ng xs i n y k rb rs):∃ ρ:Int×Int×Int×Int,LoopTo Tryz.prog (lb 16 p_iP) (sh_iP er d ng xs i n y k rb rs) (hp_iP er d ng xs i n y k rb rs) (.exit 2) (sh_iP er d ng xs ρ.1 ρ.2.1 ρ.2.2.1 ρ.2.2.2 rb rs) (hp_iP er d ng xs ρ.1 ρ.2.1 ρ.2.2.1 ρ.2.2.2 rb rs)∧post_iP er d ng xs i n y k rb rs ρ:=by
 obtain ⟨rfl,rfl,rfl,j,rfl,hj,hd,ho⟩:=h
 exact iP_go er d ng xs rb rs j hj hd ho 9 0 0 rfl (by omega) (by decide) (by rw [Nat.pow_zero,Nat.mul_one];rfl) (fun _=>trivial)
def told_iP (κ:Int→ByteArray→Bool→List Int→Int→Int→Int→Int→Bool→ByteArray→Bool) (φ:Int→ByteArray→Bool→List Int→Int→Int→Int→Int→Bool→ByteArray→Int×Int×Int×Int) (T:List AV) (H:Hp):Option (Bool×Ex×List AV×Hp):=
 match lget T 2,lget T 3,lget T 4,lget T 5,lget T 6,lget T 7,lget T 8,lget T 9,lget T 10,H with
 | .ptr 0 0, .val (.int .i64 er), .val (.string d), .val (.bool ng), .lst false 58 m_xs f_xs, .val (.int .i64 i), .val (.int .u32 n), .val (.int .u32 y), .val (.int .i64 k), [.row (.cells [.val (.bool rb), .val (.string rs)]) 38 .live]=>bif T.length==78 then some (okB m_xs f_xs&&κ er d ng (rowOf m_xs f_xs) i n y k rb rs, .exit 2,sh_iP er d ng (rowOf m_xs f_xs) ((φ er d ng (rowOf m_xs f_xs) i n y k rb rs).1) ((φ er d ng (rowOf m_xs f_xs) i n y k rb rs).2.1) ((φ er d ng (rowOf m_xs f_xs) i n y k rb rs).2.2.1) ((φ er d ng (rowOf m_xs f_xs) i n y k rb rs).2.2.2) rb rs,hp_iP er d ng (rowOf m_xs f_xs) ((φ er d ng (rowOf m_xs f_xs) i n y k rb rs).1) ((φ er d ng (rowOf m_xs f_xs) i n y k rb rs).2.1) ((φ er d ng (rowOf m_xs f_xs) i n y k rb rs).2.2.1) ((φ er d ng (rowOf m_xs f_xs) i n y k rb rs).2.2.2) rb rs) else none
 | _,_,_,_,_,_,_,_,_,_=>none
abbrev KT_iP:Type:=Int→ByteArray→Bool→List Int→Int→Int→Int→Int→Bool→ByteArray→Bool
abbrev FT_iP:Type:=Int→ByteArray→Bool→List Int→Int→Int→Int→Int→Bool→ByteArray→Int×Int×Int×Int
def LL_iP (κ:KT_iP) (φ:FT_iP) (L:LTab):LTab:=addLn 0 16 p_iP [2,3,4,5,6,7,8,9,10] (told_iP κ φ) L
def phi_iP (er:Int) (d:ByteArray) (ng:Bool) (xs:List Int) (i:Int) (n:Int) (y:Int) (k:Int) (rb:Bool) (rs:ByteArray):Int×Int×Int×Int:=Classical.epsilon fun ρ=>LoopTo Tryz.prog (lb 16 p_iP) (sh_iP er d ng xs i n y k rb rs) (hp_iP er d ng xs i n y k rb rs) (.exit 2) (sh_iP er d ng xs (ρ.1) (ρ.2.1) (ρ.2.2.1) (ρ.2.2.2) rb rs) (hp_iP er d ng xs (ρ.1) (ρ.2.1) (ρ.2.2.1) (ρ.2.2.2) rb rs)∧post_iP er d ng xs i n y k rb rs ρ
theorem phi_iP_spec (er:Int) (d:ByteArray) (ng:Bool) (xs:List Int) (i:Int) (n:Int) (y:Int) (k:Int) (rb:Bool) (rs:ByteArray) (h:pre_iP er d ng xs i n y k rb rs):LoopTo Tryz.prog (lb 16 p_iP) (sh_iP er d ng xs i n y k rb rs) (hp_iP er d ng xs i n y k rb rs) (.exit 2) (sh_iP er d ng xs ((phi_iP er d ng xs i n y k rb rs).1) ((phi_iP er d ng xs i n y k rb rs).2.1) ((phi_iP er d ng xs i n y k rb rs).2.2.1) ((phi_iP er d ng xs i n y k rb rs).2.2.2) rb rs) (hp_iP er d ng xs ((phi_iP er d ng xs i n y k rb rs).1) ((phi_iP er d ng xs i n y k rb rs).2.1) ((phi_iP er d ng xs i n y k rb rs).2.2.1) ((phi_iP er d ng xs i n y k rb rs).2.2.2) rb rs)∧post_iP er d ng xs i n y k rb rs (phi_iP er d ng xs i n y k rb rs):=Classical.epsilon_spec (loop_iP er d ng xs i n y k rb rs h)
def cond_iP (er:Int) (d:ByteArray) (ng:Bool) (xs:List Int) (i:Int) (n:Int) (y:Int) (k:Int) (rb:Bool) (rs:ByteArray):Bool:= @decide (pre_iP er d ng xs i n y k rb rs) (Classical.propDecidable _)
theorem cond_iP_eq (er:Int) (d:ByteArray) (ng:Bool) (xs:List Int) (i:Int) (n:Int) (y:Int) (k:Int) (rb:Bool) (rs:ByteArray) (h:pre_iP er d ng xs i n y k rb rs):cond_iP er d ng xs i n y k rb rs=true:= @decide_eq_true _ (Classical.propDecidable _) h
theorem told_iP_ok (T:List AV) (H:Hp) (e:Ex) (T1:List AV) (H1:Hp) (h:told_iP cond_iP phi_iP T H=some (true,e,T1,H1)):V.Ends Tryz.prog false 0 0 (.loop (lb 16 p_iP)) T H e T1 H1:=by
 unfold told_iP at h
 split at h
 ·rename_i er d ng m_xs f_xs i n y k rb rs h2 h3 h4 h5 h6 h7 h8 h9 h10
  rw [Bool.cond_eq_ite] at h
  split at h
  ·rename_i hlen
   rw [beq_iff_eq] at hlen
   simp only [Option.some.injEq,Prod.mk.injEq,Bool.and_eq_true,decide_eq_true_eq] at h
   obtain ⟨⟨k1,k2⟩,rfl,rfl,rfl⟩:=h
   have kc:= @of_decide_eq_true _ (Classical.propDecidable _) k2
   refine Ends.pre (phi_iP_spec er d ng (rowOf m_xs f_xs) i n y k rb rs kc).1.ends (fun α B w D ys hr=>slots_rel hlen (fun p hp y hy=> ?_) hr)
   simp only [List.mem_cons,List.not_mem_nil,or_false] at hp
   rcases hp with rfl | rfl | rfl | rfl | rfl | rfl | rfl | rfl | rfl
   ·rw [h2] at hy;exact hy
   ·rw [h3] at hy;exact hy
   ·rw [h4] at hy;exact hy
   ·rw [h5] at hy;exact hy
   ·rw [h6] at hy;rw [rowOf_len];exact row_norm cells58 k1 hy
   ·rw [h7] at hy;exact hy
   ·rw [h8] at hy;exact hy
   ·rw [h9] at hy;exact hy
   ·rw [h10] at hy;exact hy
  ·cases h
 ·cases h
theorem LL_iP_ok {L:LTab} (h:LOk Tryz.prog L):LOk Tryz.prog (LL_iP cond_iP phi_iP L):=h.add2n body_iP told_iP_ok
def pre_iQ (er:Int) (d:ByteArray) (ng:Bool) (xs:List Int) (i n y k:Int) (rb:Bool) (rs:ByteArray):Prop:=n=0∧y=1∧k=0∧∃ j m:Nat,i=j∧m < 9∧j+m < d.size∧d.size≤1000000∧(∀ l,j≤l→l < j+m→okd d l)∧¬ okd d (j+m)
def post_iQ (er:Int) (d:ByteArray) (ng:Bool) (xs:List Int) (i n y k:Int) (rb:Bool) (rs:ByteArray) (ρ:Int×Int×Int×Int×Int×Bool×ByteArray):Prop:=ρ.1=3∧ρ.2.2.2.2.2.1=false∧ρ.2.2.2.2.2.2=ByteArray.mk #[]
theorem iQ_go (er:Int) (d:ByteArray) (ng:Bool) (xs:List Int) (rb:Bool) (rs:ByteArray) (j:Nat) (hd:d.size≤1000000) (m:Nat):∀ (k n:Nat),k+m < 9→j+k+m < d.size→(∀ l,j≤l→l < j+k+m→okd d l)→¬ okd d (j+k+m)→n < 10 ^ k→
  ∃ ρ:Int×Int×Int×Int×Int×Bool×ByteArray,LoopTo Tryz.prog (lb 16 p_iP) (sh_iP er d ng xs ((j+k:Nat):Int) n ((10 ^ k:Nat):Int) k rb rs) (hp_iP er d ng xs ((j+k:Nat):Int) n ((10 ^ k:Nat):Int) k rb rs) .ret (sh_iP ρ.1 d ng xs ρ.2.1 ρ.2.2.1 ρ.2.2.2.1 ρ.2.2.2.2.1 ρ.2.2.2.2.2.1 ρ.2.2.2.2.2.2) (hp_iP ρ.1 d ng xs ρ.2.1 ρ.2.2.1 ρ.2.2.2.1 ρ.2.2.2.2.1 ρ.2.2.2.2.2.1 ρ.2.2.2.2.2.2)∧ρ.1=3∧ρ.2.2.2.2.2.1=false∧ρ.2.2.2.2.2.2=ByteArray.mk #[]:=by
 induction m with
 | zero=>
  intro k n hk hs ho hb hn
  rw [Nat.add_zero] at hb hs
  refine ⟨(3,((j+k:Nat):Int),(n:Int),((10 ^ k:Nat):Int),(k:Int),false,ByteArray.mk #[]), .last (step_iP ?_) (by intro h;cases h),rfl,rfl,rfl⟩
  rw [round_iP,Int.toNat_natCast,dT (show (k:Int) < 9 by omega),dT (show ((j+k:Nat):Int) < (d.size:Int) by omega),dT (show (0:Int)≤((j+k:Nat):Int) by omega)]
  by_cases h1:byteAt d (j+k) < 48
  ·rw [dT h1];rfl
  ·have h2:57 < byteAt d (j+k):=by
    refine Int.lt_of_not_ge fun h=>hb ⟨by omega,h⟩
   rw [dF h1,dT h2];rfl
 | succ m ih=>
  intro k n hk hs ho hb hn
  have hok:=ho (j+k) (by omega) (by omega)
  have hdl:=dig_lt hok
  obtain ⟨ρ,g1,g2⟩:=ih (k+1) (n*10+dig d (j+k)) (by omega) (by omega) (fun l h1 h2=>ho l h1 (by omega)) (by rw [show j+(k+1)+m=j+k+(m+1) by omega];exact hb) (by rw [Nat.pow_succ];omega)
  exact ⟨ρ, .more (step_iP (iP_dig er d ng xs rb rs (by omega) (by omega) hd hok hn)) g1,g2⟩
theorem loop_iQ (er:Int) (d:ByteArray) (ng:Bool) (xs:List Int) (i n y k:Int) (rb:Bool) (rs:ByteArray) (h:pre_iQ er d ng xs i n y k rb rs):∃ ρ:Int×Int×Int×Int×Int×Bool×ByteArray,LoopTo Tryz.prog (lb 16 p_iQ) (sh_iQ er d ng xs i n y k rb rs) (hp_iQ er d ng xs i n y k rb rs) .ret (sh_iQ ρ.1 d ng xs ρ.2.1 ρ.2.2.1 ρ.2.2.2.1 ρ.2.2.2.2.1 ρ.2.2.2.2.2.1 ρ.2.2.2.2.2.2) (hp_iQ ρ.1 d ng xs ρ.2.1 ρ.2.2.1 ρ.2.2.2.1 ρ.2.2.2.2.1 ρ.2.2.2.2.2.1 ρ.2.2.2.2.2.2)∧post_iQ er d ng xs i n y k rb rs ρ:=by
 obtain ⟨rfl,rfl,rfl,j,m,rfl,hm,hj,hd,ho,hb⟩:=h
 exact iQ_go er d ng xs rb rs j hd m 0 0 (by omega) hj ho hb (by decide)
def told_iQ (κ:Int→ByteArray→Bool→List Int→Int→Int→Int→Int→Bool→ByteArray→Bool) (φ:Int→ByteArray→Bool→List Int→Int→Int→Int→Int→Bool→ByteArray→Int×Int×Int×Int×Int×Bool×ByteArray) (T:List AV) (H:Hp):Option (Bool×Ex×List AV×Hp):=
 match lget T 2,lget T 3,lget T 4,lget T 5,lget T 6,lget T 7,lget T 8,lget T 9,lget T 10,H with
 | .ptr 0 0, .val (.int .i64 er), .val (.string d), .val (.bool ng), .lst false 58 m_xs f_xs, .val (.int .i64 i), .val (.int .u32 n), .val (.int .u32 y), .val (.int .i64 k), [.row (.cells [.val (.bool rb), .val (.string rs)]) 38 .live]=>bif T.length==78 then some (okB m_xs f_xs&&κ er d ng (rowOf m_xs f_xs) i n y k rb rs, .ret,sh_iQ ((φ er d ng (rowOf m_xs f_xs) i n y k rb rs).1) d ng (rowOf m_xs f_xs) ((φ er d ng (rowOf m_xs f_xs) i n y k rb rs).2.1) ((φ er d ng (rowOf m_xs f_xs) i n y k rb rs).2.2.1) ((φ er d ng (rowOf m_xs f_xs) i n y k rb rs).2.2.2.1) ((φ er d ng (rowOf m_xs f_xs) i n y k rb rs).2.2.2.2.1) ((φ er d ng (rowOf m_xs f_xs) i n y k rb rs).2.2.2.2.2.1) ((φ er d ng (rowOf m_xs f_xs) i n y k rb rs).2.2.2.2.2.2),hp_iQ ((φ er d ng (rowOf m_xs f_xs) i n y k rb rs).1) d ng (rowOf m_xs f_xs) ((φ er d ng (rowOf m_xs f_xs) i n y k rb rs).2.1) ((φ er d ng (rowOf m_xs f_xs) i n y k rb rs).2.2.1) ((φ er d ng (rowOf m_xs f_xs) i n y k rb rs).2.2.2.1) ((φ er d ng (rowOf m_xs f_xs) i n y k rb rs).2.2.2.2.1) ((φ er d ng (rowOf m_xs f_xs) i n y k rb rs).2.2.2.2.2.1) ((φ er d ng (rowOf m_xs f_xs) i n y k rb rs).2.2.2.2.2.2)) else none
 | _,_,_,_,_,_,_,_,_,_=>none
abbrev KT_iQ:Type:=Int→ByteArray→Bool→List Int→Int→Int→Int→Int→Bool→ByteArray→Bool
abbrev FT_iQ:Type:=Int→ByteArray→Bool→List Int→Int→Int→Int→Int→Bool→ByteArray→Int×Int×Int×Int×Int×Bool×ByteArray
def LL_iQ (κ:KT_iQ) (φ:FT_iQ) (L:LTab):LTab:=addLn 0 16 p_iQ [2,3,4,5,6,7,8,9,10] (told_iQ κ φ) L
def phi_iQ (er:Int) (d:ByteArray) (ng:Bool) (xs:List Int) (i:Int) (n:Int) (y:Int) (k:Int) (rb:Bool) (rs:ByteArray):Int×Int×Int×Int×Int×Bool×ByteArray:=Classical.epsilon fun ρ=>LoopTo Tryz.prog (lb 16 p_iQ) (sh_iQ er d ng xs i n y k rb rs) (hp_iQ er d ng xs i n y k rb rs) (.ret) (sh_iQ (ρ.1) d ng xs (ρ.2.1) (ρ.2.2.1) (ρ.2.2.2.1) (ρ.2.2.2.2.1) (ρ.2.2.2.2.2.1) (ρ.2.2.2.2.2.2)) (hp_iQ (ρ.1) d ng xs (ρ.2.1) (ρ.2.2.1) (ρ.2.2.2.1) (ρ.2.2.2.2.1) (ρ.2.2.2.2.2.1) (ρ.2.2.2.2.2.2))∧post_iQ er d ng xs i n y k rb rs ρ
theorem phi_iQ_spec (er:Int) (d:ByteArray) (ng:Bool) (xs:List Int) (i:Int) (n:Int) (y:Int) (k:Int) (rb:Bool) (rs:ByteArray) (h:pre_iQ er d ng xs i n y k rb rs):LoopTo Tryz.prog (lb 16 p_iQ) (sh_iQ er d ng xs i n y k rb rs) (hp_iQ er d ng xs i n y k rb rs) (.ret) (sh_iQ ((phi_iQ er d ng xs i n y k rb rs).1) d ng xs ((phi_iQ er d ng xs i n y k rb rs).2.1) ((phi_iQ er d ng xs i n y k rb rs).2.2.1) ((phi_iQ er d ng xs i n y k rb rs).2.2.2.1) ((phi_iQ er d ng xs i n y k rb rs).2.2.2.2.1) ((phi_iQ er d ng xs i n y k rb rs).2.2.2.2.2.1) ((phi_iQ er d ng xs i n y k rb rs).2.2.2.2.2.2)) (hp_iQ ((phi_iQ er d ng xs i n y k rb rs).1) d ng xs ((phi_iQ er d ng xs i n y k rb rs).2.1) ((phi_iQ er d ng xs i n y k rb rs).2.2.1) ((phi_iQ er d ng xs i n y k rb rs).2.2.2.1) ((phi_iQ er d ng xs i n y k rb rs).2.2.2.2.1) ((phi_iQ er d ng xs i n y k rb rs).2.2.2.2.2.1) ((phi_iQ er d ng xs i n y k rb rs).2.2.2.2.2.2))∧post_iQ er d ng xs i n y k rb rs (phi_iQ er d ng xs i n y k rb rs):=Classical.epsilon_spec (loop_iQ er d ng xs i n y k rb rs h)
def cond_iQ (er:Int) (d:ByteArray) (ng:Bool) (xs:List Int) (i:Int) (n:Int) (y:Int) (k:Int) (rb:Bool) (rs:ByteArray):Bool:= @decide (pre_iQ er d ng xs i n y k rb rs) (Classical.propDecidable _)
theorem cond_iQ_eq (er:Int) (d:ByteArray) (ng:Bool) (xs:List Int) (i:Int) (n:Int) (y:Int) (k:Int) (rb:Bool) (rs:ByteArray) (h:pre_iQ er d ng xs i n y k rb rs):cond_iQ er d ng xs i n y k rb rs=true:= @decide_eq_true _ (Classical.propDecidable _) h
theorem told_iQ_ok (T:List AV) (H:Hp) (e:Ex) (T1:List AV) (H1:Hp) (h:told_iQ cond_iQ phi_iQ T H=some (true,e,T1,H1)):V.Ends Tryz.prog false 0 0 (.loop (lb 16 p_iQ)) T H e T1 H1:=by
 unfold told_iQ at h
 split at h
 ·rename_i er d ng m_xs f_xs i n y k rb rs h2 h3 h4 h5 h6 h7 h8 h9 h10
  rw [Bool.cond_eq_ite] at h
  split at h
  ·rename_i hlen
   rw [beq_iff_eq] at hlen
   simp only [Option.some.injEq,Prod.mk.injEq,Bool.and_eq_true,decide_eq_true_eq] at h
   obtain ⟨⟨k1,k2⟩,rfl,rfl,rfl⟩:=h
   have kc:= @of_decide_eq_true _ (Classical.propDecidable _) k2
   refine Ends.pre (phi_iQ_spec er d ng (rowOf m_xs f_xs) i n y k rb rs kc).1.ends (fun α B w D ys hr=>slots_rel hlen (fun p hp y hy=> ?_) hr)
   simp only [List.mem_cons,List.not_mem_nil,or_false] at hp
   rcases hp with rfl | rfl | rfl | rfl | rfl | rfl | rfl | rfl | rfl
   ·rw [h2] at hy;exact hy
   ·rw [h3] at hy;exact hy
   ·rw [h4] at hy;exact hy
   ·rw [h5] at hy;exact hy
   ·rw [h6] at hy;rw [rowOf_len];exact row_norm cells58 k1 hy
   ·rw [h7] at hy;exact hy
   ·rw [h8] at hy;exact hy
   ·rw [h9] at hy;exact hy
   ·rw [h10] at hy;exact hy
  ·cases h
 ·cases h
theorem LL_iQ_ok {L:LTab} (h:LOk Tryz.prog L):LOk Tryz.prog (LL_iQ cond_iQ phi_iQ L):=h.add2n body_iQ told_iQ_ok
end
end Go.Proofs.YtibaendebbicjaaGreat.L
namespace Go.Proofs.YtibaendebbicjaaGreat.L
open Go Go.V Go.RowKit Go.Proofs.YtibaendebbicjaaGreat.Sp Go.Proofs.YtibaendebbicjaaGreat.F
open Go.Proofs (Tryz.prog)
noncomputable section
def CMd (S:Sg):FuncId→List AV→Option (Bool×AV):=addC 36 (tMuladd S) noC
def EpG (S:Sg) (κ:KT_iP) (φ:FT_iP):Env:= ⟨CMd S,fun _=>false,LL_iP κ φ noL⟩
def EpB (S:Sg) (κ:KT_iQ) (φ:FT_iQ):Env:= ⟨CMd S,fun _=>false,LL_iQ κ φ noL⟩
abbrev p_pO:List Bool:= [false,true,false,true,true,true,true,true]
def sh_pO (er:Int) (d:ByteArray) (ng:Bool) (xs:List Int) (i:Int) (rb:Bool) (rs:ByteArray):List AV:=slots 78 [(2, .ptr 0 0),(3, .val (.int .i64 er)),(4, .val (.string d)),(5, .val (.bool ng)),(6, .lst false 58 xs.length (lim xs)),(7, .val (.int .i64 i))]
def hp_pO (er:Int) (d:ByteArray) (ng:Bool) (xs:List Int) (i:Int) (rb:Bool) (rs:ByteArray):Hp:= [.row (.cells [.val (.bool rb), .val (.string rs)]) 38 .live]
theorem body_pO:subC Tryz.prog 16 p_pO=some (.loop (lb 16 p_pO)):=by kernel_rfl
theorem code_pO:subC Tryz.prog 16 (false :: p_pO)=some (lb 16 p_pO):=by kernel_rfl
theorem round_pO (S:Sg) (κ:KT_iP) (φ:FT_iP) (er:Int) (d:ByteArray) (ng:Bool) (xs:List Int) (i:Int) (rb:Bool) (rs:ByteArray):letI q_2:=(rowOf xs.length (lim xs));letI q_1:=(φ er d ng q_2 i (0:Int) (1:Int) (0:Int) rb rs);
  (roundA Tryz.prog (EpG S κ φ) 16 [2,3,4,5,6,7] (lb 16 p_pO) (false :: p_pO) (sh_pO er d ng xs i rb rs) (hp_pO er d ng xs i rb rs)=(bif decide (i < (↑d.size:Int)) then (bif okB xs.length (lim xs)&&κ er d ng q_2 i (0:Int) (1:Int) (0:Int) rb rs then (bif S.oks q_2.length (lim q_2)&&inU q_1.snd.snd.fst&&inU q_1.snd.fst then some (.normal,slots 78 [(2,(.ptr 0 0)),(3,(.val (.int .i64 er))),(4,(.val (.string d))),(5,(.val (.bool ng))),(6,(.lst false 58 (S.len (S.num q_2.length (lim q_2)*q_1.snd.snd.fst.toNat+q_1.snd.fst.toNat)) (S.row (S.num q_2.length (lim q_2)*q_1.snd.snd.fst.toNat+q_1.snd.fst.toNat)))),(7,(.val (.int .i64 (q_1.fst))))], [(.row (.cells [(.val (.bool rb)),(.val (.string rs))]) 38 .live)]) else none) else none) else some ((.exit 0),slots 78 [(2,(.ptr 0 0)),(3,(.val (.int .i64 er))),(4,(.val (.string d))),(5,(.val (.bool ng))),(6,(.lst false 58 xs.length (lim xs))),(7,(.val (.int .i64 i)))], [(.row (.cells [(.val (.bool rb)),(.val (.string rs))]) 38 .live)]))):=by kernel_rfl
theorem step_pO {er:Int} {d:ByteArray} {ng:Bool} {xs:List Int} {i:Int} {rb:Bool} {rs:ByteArray} {e:Ex} {T:List AV} {H:Hp} (h:roundA Tryz.prog (EpG sg0 cond_iP phi_iP) 16 [2,3,4,5,6,7] (lb 16 p_pO) (false :: p_pO) (sh_pO er d ng xs i rb rs) (hp_pO er d ng xs i rb rs)=some (e,T,H)):V.Ends Tryz.prog false 0 0 (lb 16 p_pO) (sh_pO er d ng xs i rb rs) (hp_pO er d ng xs i rb rs) e T H:=
 round_ends ((meets_none _).add eMuladd) (LL_iP_ok LOk.none).ok mixed code_pO h
theorem nil_lst {t:TypeId} {α:Nat→Nat×Nat} {B:Nat→Prop} {w:World} {D:Nat→Prop} {x:Value} (h:(AV.val (.slice none 0 0)).Rel Tryz.prog α B w D x):(AV.lst false t ([]:List Int).length (lim [])).Rel Tryz.prog α B w D x:=
 ⟨none,0,h,Nat.le_refl _,(fun h=>by cases h), .inl rfl⟩
theorem bs_dec {n i:Nat} (h:n < 10 ^ i):bs n≤i:=bs_le (Nat.lt_of_lt_of_le h (Nat.pow_le_pow_left (by decide) i))
theorem oks_dec {n i:Nat} (h:n < 10 ^ i) (hi:i≤1000000):sg0.oks (toL n).length (lim (toL n))=true:=oks_row (by have:=bs_dec h;omega)
theorem num_toL' (n:Nat):sg0.num (toL n).length (lim (toL n))=n:=num_row n
def pre_pO (er:Int) (d:ByteArray) (ng:Bool) (xs:List Int) (i:Int) (rb:Bool) (rs:ByteArray):Prop:=xs= []∧i=0∧d.size≤1000000∧∀ l,l < d.size→okd d l
def post_pO (er:Int) (d:ByteArray) (ng:Bool) (xs:List Int) (i:Int) (rb:Bool) (rs:ByteArray) (ρ:List Int×Int):Prop:=ρ.1=toL (vT d d.size)
theorem pO_step (er:Int) (d:ByteArray) (ng:Bool) (rb:Bool) (rs:ByteArray) (hd:d.size≤1000000) {i:Nat} (hi:i < d.size) (hv:vT d i < 10 ^ i) (ho:∀ l,i≤l→l < i+9→l < d.size→okd d l):∃ k,0 < k∧k≤9∧i+k≤d.size∧vT d (i+k) < 10 ^ (i+k)∧
  V.Ends Tryz.prog false 0 0 (lb 16 p_pO) (sh_pO er d ng (toL (vT d i)) i rb rs) (hp_pO er d ng (toL (vT d i)) i rb rs) .normal (sh_pO er d ng (toL (vT d (i+k))) ((i+k:Nat):Int) rb rs) (hp_pO er d ng (toL (vT d (i+k))) ((i+k:Nat):Int) rb rs):=by
 have hq:pre_iP er d ng (toL (vT d i)) i 0 1 0 rb rs:= ⟨rfl,rfl,rfl,i,rfl,hi,hd,ho⟩
 have hs:=(phi_iP_spec _ _ _ _ _ _ _ _ _ _ hq).2
 have hr:=round_pO sg0 cond_iP phi_iP er d ng (toL (vT d i)) i rb rs
 simp only [rowOf_lim',num_toL'] at hr
 rw [cond_iP_eq _ _ _ _ _ _ _ _ _ _ hq,show okB (toL (vT d i)).length (lim (toL (vT d i)))=true from okB_enc _,oks_dec hv (by omega),dT (show (i:Int) < (d.size:Int) by omega)] at hr
 generalize phi_iP er d ng (toL (vT d i)) i 0 1 0 rb rs=ρ at*
 obtain ⟨k,n,g1,g2,g3,g4,g5,g6,g7,g8⟩:=hs
 rw [Int.toNat_natCast] at g1 g4 g8
 have h9:=p9 g3
 have u1:inU ((10 ^ k:Nat):Int)=true:=by unfold inU;rw [Bool.and_eq_true,decide_eq_true_eq,decide_eq_true_eq];omega
 have u2:inU ((n:Nat):Int)=true:=by unfold inU;rw [Bool.and_eq_true,decide_eq_true_eq,decide_eq_true_eq];omega
 rw [g7,g5,g1,u1,u2,Int.toNat_natCast,Int.toNat_natCast,← g8] at hr
 refine ⟨k,g2,g3,g4, ?_,step_pO hr⟩
 rw [g8,Nat.pow_add]
 have h1:(vT d i+1)*10 ^ k≤10 ^ i*10 ^ k:=Nat.mul_le_mul_right _ hv
 rw [Nat.add_mul,Nat.one_mul] at h1
 omega
theorem pO_go (er:Int) (d:ByteArray) (ng:Bool) (rb:Bool) (rs:ByteArray) (hd:d.size≤1000000) (ho:∀ l,l < d.size→okd d l) (r:Nat):∀ i,d.size≤i+r→i≤d.size→vT d i < 10 ^ i→LoopTo Tryz.prog (lb 16 p_pO) (sh_pO er d ng (toL (vT d i)) i rb rs) (hp_pO er d ng (toL (vT d i)) i rb rs) (.exit 0) (sh_pO er d ng (toL (vT d d.size)) d.size rb rs) (hp_pO er d ng (toL (vT d d.size)) d.size rb rs):=by
 have fin:LoopTo Tryz.prog (lb 16 p_pO) (sh_pO er d ng (toL (vT d d.size)) d.size rb rs) (hp_pO er d ng (toL (vT d d.size)) d.size rb rs) (.exit 0) (sh_pO er d ng (toL (vT d d.size)) d.size rb rs) (hp_pO er d ng (toL (vT d d.size)) d.size rb rs):=by
  refine .last (step_pO ?_) (by intro h;cases h)
  rw [round_pO,dF (show ¬ ((d.size:Nat):Int) < (d.size:Int) by omega)]
  rfl
 induction r with
 | zero=>
  intro i h1 h2 _
  rw [show i=d.size by omega]
  exact fin
 | succ r ih=>
  intro i h1 h2 hv
  by_cases hi:i < d.size
  ·obtain ⟨k,k1,k2,k3,k4,k5⟩:=pO_step er d ng rb rs hd hi hv (fun l _ _ h=>ho l h)
   exact .more k5 (ih (i+k) (by omega) k3 k4)
  ·rw [show i=d.size by omega]
   exact fin
theorem loop_pO (er:Int) (d:ByteArray) (ng:Bool) (xs:List Int) (i:Int) (rb:Bool) (rs:ByteArray) (h:pre_pO er d ng xs i rb rs):∃ ρ:List Int×Int,LoopTo Tryz.prog (lb 16 p_pO) (sh_pO er d ng xs i rb rs) (hp_pO er d ng xs i rb rs) (.exit 0) (sh_pO er d ng ρ.1 ρ.2 rb rs) (hp_pO er d ng ρ.1 ρ.2 rb rs)∧post_pO er d ng xs i rb rs ρ:=by
 obtain ⟨rfl,rfl,hd,ho⟩:=h
 have h:=pO_go er d ng rb rs hd ho d.size 0 (by omega) (Nat.zero_le _) (show 0 < 1 by decide)
 rw [show toL (vT d 0)= [] from toL_zero] at h
 exact ⟨(toL (vT d d.size),(d.size:Int)),h,rfl⟩
def told_pO (κ:Int→ByteArray→Bool→List Int→Int→Bool→ByteArray→Bool) (φ:Int→ByteArray→Bool→List Int→Int→Bool→ByteArray→List Int×Int) (T:List AV) (H:Hp):Option (Bool×Ex×List AV×Hp):=
 match lget T 2,lget T 3,lget T 4,lget T 5,lget T 6,lget T 7,H with
 | .ptr 0 0, .val (.int .i64 er), .val (.string d), .val (.bool ng), .val (.slice none 0 0), .val (.int .i64 i), [.row (.cells [.val (.bool rb), .val (.string rs)]) 38 .live]=>bif T.length==78 then some (κ er d ng ([]:List Int) i rb rs, .exit 0,sh_pO er d ng ((φ er d ng ([]:List Int) i rb rs).1) ((φ er d ng ([]:List Int) i rb rs).2) rb rs,hp_pO er d ng ((φ er d ng ([]:List Int) i rb rs).1) ((φ er d ng ([]:List Int) i rb rs).2) rb rs) else none
 | _,_,_,_,_,_,_=>none
abbrev KT_pO:Type:=Int→ByteArray→Bool→List Int→Int→Bool→ByteArray→Bool
abbrev FT_pO:Type:=Int→ByteArray→Bool→List Int→Int→Bool→ByteArray→List Int×Int
def LL_pO (κ:KT_pO) (φ:FT_pO) (L:LTab):LTab:=addLn 0 16 p_pO [2,3,4,5,6,7] (told_pO κ φ) L
def phi_pO (er:Int) (d:ByteArray) (ng:Bool) (xs:List Int) (i:Int) (rb:Bool) (rs:ByteArray):List Int×Int:=Classical.epsilon fun ρ=>LoopTo Tryz.prog (lb 16 p_pO) (sh_pO er d ng xs i rb rs) (hp_pO er d ng xs i rb rs) (.exit 0) (sh_pO er d ng (ρ.1) (ρ.2) rb rs) (hp_pO er d ng (ρ.1) (ρ.2) rb rs)∧post_pO er d ng xs i rb rs ρ
theorem phi_pO_spec (er:Int) (d:ByteArray) (ng:Bool) (xs:List Int) (i:Int) (rb:Bool) (rs:ByteArray) (h:pre_pO er d ng xs i rb rs):LoopTo Tryz.prog (lb 16 p_pO) (sh_pO er d ng xs i rb rs) (hp_pO er d ng xs i rb rs) (.exit 0) (sh_pO er d ng ((phi_pO er d ng xs i rb rs).1) ((phi_pO er d ng xs i rb rs).2) rb rs) (hp_pO er d ng ((phi_pO er d ng xs i rb rs).1) ((phi_pO er d ng xs i rb rs).2) rb rs)∧post_pO er d ng xs i rb rs (phi_pO er d ng xs i rb rs):=Classical.epsilon_spec (loop_pO er d ng xs i rb rs h)
def cond_pO (er:Int) (d:ByteArray) (ng:Bool) (xs:List Int) (i:Int) (rb:Bool) (rs:ByteArray):Bool:= @decide (pre_pO er d ng xs i rb rs) (Classical.propDecidable _)
theorem cond_pO_eq (er:Int) (d:ByteArray) (ng:Bool) (xs:List Int) (i:Int) (rb:Bool) (rs:ByteArray) (h:pre_pO er d ng xs i rb rs):cond_pO er d ng xs i rb rs=true:= @decide_eq_true _ (Classical.propDecidable _) h
theorem told_pO_ok (T:List AV) (H:Hp) (e:Ex) (T1:List AV) (H1:Hp) (h:told_pO cond_pO phi_pO T H=some (true,e,T1,H1)):V.Ends Tryz.prog false 0 0 (.loop (lb 16 p_pO)) T H e T1 H1:=by
 unfold told_pO at h
 split at h
 ·rename_i er d ng i rb rs h2 h3 h4 h5 h6 h7
  rw [Bool.cond_eq_ite] at h
  split at h
  ·rename_i hlen
   rw [beq_iff_eq] at hlen
   simp only [Option.some.injEq,Prod.mk.injEq,Bool.and_eq_true,decide_eq_true_eq] at h
   obtain ⟨k1,rfl,rfl,rfl⟩:=h
   have kc:= @of_decide_eq_true _ (Classical.propDecidable _) k1
   refine Ends.pre (phi_pO_spec er d ng ([]:List Int) i rb rs kc).1.ends (fun α B w D ys hr=>slots_rel hlen (fun p hp y hy=> ?_) hr)
   simp only [List.mem_cons,List.not_mem_nil,or_false] at hp
   rcases hp with rfl | rfl | rfl | rfl | rfl | rfl
   ·rw [h2] at hy;exact hy
   ·rw [h3] at hy;exact hy
   ·rw [h4] at hy;exact hy
   ·rw [h5] at hy;exact hy
   ·rw [h6] at hy;exact nil_lst hy
   ·rw [h7] at hy;exact hy
  ·cases h
 ·cases h
theorem LL_pO_ok {L:LTab} (h:LOk Tryz.prog L):LOk Tryz.prog (LL_pO cond_pO phi_pO L):=h.add2n body_pO told_pO_ok
abbrev p_pX:List Bool:= [false,true,false,true,true,true,true,true]
def sh_pX (er:Int) (d:ByteArray) (ng:Bool) (xs:List Int) (i:Int) (rb:Bool) (rs:ByteArray):List AV:=slots 78 [(2, .ptr 0 0),(3, .val (.int .i64 er)),(4, .val (.string d)),(5, .val (.bool ng)),(6, .lst false 58 xs.length (lim xs)),(7, .val (.int .i64 i))]
def hp_pX (er:Int) (d:ByteArray) (ng:Bool) (xs:List Int) (i:Int) (rb:Bool) (rs:ByteArray):Hp:= [.row (.cells [.val (.bool rb), .val (.string rs)]) 38 .live]
theorem body_pX:subC Tryz.prog 16 p_pX=some (.loop (lb 16 p_pX)):=by kernel_rfl
theorem code_pX:subC Tryz.prog 16 (false :: p_pX)=some (lb 16 p_pX):=by kernel_rfl
theorem round_pX (S:Sg) (κ:KT_iQ) (φ:FT_iQ) (er:Int) (d:ByteArray) (ng:Bool) (xs:List Int) (i:Int) (rb:Bool) (rs:ByteArray):roundA Tryz.prog (EpB S κ φ) 16 [2,3,4,5,6,7] (lb 16 p_pX) (false :: p_pX) (sh_pX er d ng xs i rb rs) (hp_pX er d ng xs i rb rs)=
  (bif decide (i < (↑d.size:Int)) then (bif okB xs.length (lim xs)&&κ er d ng (rowOf xs.length (lim xs)) i (0:Int) (1:Int) (0:Int) rb rs then some (.ret,slots 78 [(2,(.ptr 0 0)),(3,(.val (.int .i64 ((φ er d ng (rowOf xs.length (lim xs)) i (0:Int) (1:Int) (0:Int) rb rs).fst)))),(4,(.val (.string d))),(5,(.val (.bool ng))),(6,(.lst false 58 ((rowOf xs.length (lim xs)).length) (lim (rowOf xs.length (lim xs))))),(7,(.val (.int .i64 ((φ er d ng (rowOf xs.length (lim xs)) i (0:Int) (1:Int) (0:Int) rb rs).snd.fst))))], [(.row (.cells [(.val (.bool ((φ er d ng (rowOf xs.length (lim xs)) i (0:Int) (1:Int) (0:Int) rb rs).snd.snd.snd.snd.snd.fst))),(.val (.string ((φ er d ng (rowOf xs.length (lim xs)) i (0:Int) (1:Int) (0:Int) rb rs).snd.snd.snd.snd.snd.snd)))]) 38 .live)]) else none) else some ((.exit 0),slots 78 [(2,(.ptr 0 0)),(3,(.val (.int .i64 er))),(4,(.val (.string d))),(5,(.val (.bool ng))),(6,(.lst false 58 xs.length (lim xs))),(7,(.val (.int .i64 i)))], [(.row (.cells [(.val (.bool rb)),(.val (.string rs))]) 38 .live)])):=by kernel_rfl
theorem step_pX {er:Int} {d:ByteArray} {ng:Bool} {xs:List Int} {i:Int} {rb:Bool} {rs:ByteArray} {e:Ex} {T:List AV} {H:Hp} (h:roundA Tryz.prog (EpB sg0 cond_iQ phi_iQ) 16 [2,3,4,5,6,7] (lb 16 p_pX) (false :: p_pX) (sh_pX er d ng xs i rb rs) (hp_pX er d ng xs i rb rs)=some (e,T,H)):V.Ends Tryz.prog false 0 0 (lb 16 p_pX) (sh_pX er d ng xs i rb rs) (hp_pX er d ng xs i rb rs) e T H:=
 round_ends ((meets_none _).add eMuladd) (LL_iQ_ok LOk.none).ok mixed code_pX h
def pre_pX (er:Int) (d:ByteArray) (ng:Bool) (xs:List Int) (i:Int) (rb:Bool) (rs:ByteArray):Prop:=xs= []∧i=0∧d.size≤1000000∧∃ m,m < d.size∧(∀ l,l < m→okd d l)∧¬ okd d m
def post_pX (er:Int) (d:ByteArray) (ng:Bool) (xs:List Int) (i:Int) (rb:Bool) (rs:ByteArray) (ρ:Int×List Int×Int×Bool×ByteArray):Prop:=ρ.1=3∧ρ.2.2.2.1=false∧ρ.2.2.2.2=ByteArray.mk #[]
theorem pX_go (er:Int) (d:ByteArray) (ng:Bool) (rb:Bool) (rs:ByteArray) (hd:d.size≤1000000) (m:Nat) (hm:m < d.size) (ho:∀ l,l < m→okd d l) (hb:¬ okd d m) (r:Nat):∀ i,m≤i+r→i≤m→vT d i < 10 ^ i→∃ ρ:Int×List Int×Int×Bool×ByteArray,LoopTo Tryz.prog (lb 16 p_pO) (sh_pO er d ng (toL (vT d i)) i rb rs) (hp_pO er d ng (toL (vT d i)) i rb rs) .ret (sh_pO ρ.1 d ng ρ.2.1 ρ.2.2.1 ρ.2.2.2.1 ρ.2.2.2.2) (hp_pO ρ.1 d ng ρ.2.1 ρ.2.2.1 ρ.2.2.2.1 ρ.2.2.2.2)∧ρ.1=3∧ρ.2.2.2.1=false∧ρ.2.2.2.2=ByteArray.mk #[]:=by
 have fin:∀ i:Nat,i≤m→m < i+9→vT d i < 10 ^ i→∃ ρ:Int×List Int×Int×Bool×ByteArray,LoopTo Tryz.prog (lb 16 p_pO) (sh_pO er d ng (toL (vT d i)) i rb rs) (hp_pO er d ng (toL (vT d i)) i rb rs) .ret (sh_pO ρ.1 d ng ρ.2.1 ρ.2.2.1 ρ.2.2.2.1 ρ.2.2.2.2) (hp_pO ρ.1 d ng ρ.2.1 ρ.2.2.1 ρ.2.2.2.1 ρ.2.2.2.2)∧ρ.1=3∧ρ.2.2.2.1=false∧ρ.2.2.2.2=ByteArray.mk #[]:=by
  intro i h1 h2 hv
  have hq:pre_iQ er d ng (toL (vT d i)) i 0 1 0 rb rs:= ⟨rfl,rfl,rfl,i,m - i,rfl,by omega,by omega,hd,fun l h3 h4=>ho l (by omega),by rw [show i+(m - i)=m by omega];exact hb⟩
  have hs:=(phi_iQ_spec _ _ _ _ _ _ _ _ _ _ hq).2
  have hr:=round_pX sg0 cond_iQ phi_iQ er d ng (toL (vT d i)) i rb rs
  simp only [rowOf_lim'] at hr
  rw [cond_iQ_eq _ _ _ _ _ _ _ _ _ _ hq,show okB (toL (vT d i)).length (lim (toL (vT d i)))=true from okB_enc _,dT (show (i:Int) < (d.size:Int) by omega)] at hr
  generalize phi_iQ er d ng (toL (vT d i)) i 0 1 0 rb rs=ρ at*
  exact ⟨(ρ.1,toL (vT d i),ρ.2.1,ρ.2.2.2.2.2.1,ρ.2.2.2.2.2.2), .last (step_pX hr) (by intro h;cases h),hs.1,hs.2.1,hs.2.2⟩
 induction r with
 | zero=>
  intro i h1 h2 hv
  exact fin i h2 (by omega) hv
 | succ r ih=>
  intro i h1 h2 hv
  by_cases hi:m < i+9
  ·exact fin i h2 hi hv
  ·obtain ⟨k,k1,k2,k3,k4,k5⟩:=pO_step er d ng rb rs hd (show i < d.size by omega) hv (fun l h3 h4 _=>ho l (by omega))
   obtain ⟨ρ,g1,g2⟩:=ih (i+k) (by omega) (by omega) k4
   exact ⟨ρ, .more k5 g1,g2⟩
theorem loop_pX (er:Int) (d:ByteArray) (ng:Bool) (xs:List Int) (i:Int) (rb:Bool) (rs:ByteArray) (h:pre_pX er d ng xs i rb rs):∃ ρ:Int×List Int×Int×Bool×ByteArray,LoopTo Tryz.prog (lb 16 p_pX) (sh_pX er d ng xs i rb rs) (hp_pX er d ng xs i rb rs) .ret (sh_pX ρ.1 d ng ρ.2.1 ρ.2.2.1 ρ.2.2.2.1 ρ.2.2.2.2) (hp_pX ρ.1 d ng ρ.2.1 ρ.2.2.1 ρ.2.2.2.1 ρ.2.2.2.2)∧post_pX er d ng xs i rb rs ρ:=by
 obtain ⟨rfl,rfl,hd,m,hm,ho,hb⟩:=h
 have h:=pX_go er d ng rb rs hd m hm ho hb m 0 (by omega) (Nat.zero_le _) (show 0 < 1 by decide)
 rw [show toL (vT d 0)= [] from toL_zero] at h
 exact h
def told_pX (κ:Int→ByteArray→Bool→List Int→Int→Bool→ByteArray→Bool) (φ:Int→ByteArray→Bool→List Int→Int→Bool→ByteArray→Int×List Int×Int×Bool×ByteArray) (T:List AV) (H:Hp):Option (Bool×Ex×List AV×Hp):=
 match lget T 2,lget T 3,lget T 4,lget T 5,lget T 6,lget T 7,H with
 | .ptr 0 0, .val (.int .i64 er), .val (.string d), .val (.bool ng), .val (.slice none 0 0), .val (.int .i64 i), [.row (.cells [.val (.bool rb), .val (.string rs)]) 38 .live]=>bif T.length==78 then some (κ er d ng ([]:List Int) i rb rs, .ret,sh_pX ((φ er d ng ([]:List Int) i rb rs).1) d ng ((φ er d ng ([]:List Int) i rb rs).2.1) ((φ er d ng ([]:List Int) i rb rs).2.2.1) ((φ er d ng ([]:List Int) i rb rs).2.2.2.1) ((φ er d ng ([]:List Int) i rb rs).2.2.2.2),hp_pX ((φ er d ng ([]:List Int) i rb rs).1) d ng ((φ er d ng ([]:List Int) i rb rs).2.1) ((φ er d ng ([]:List Int) i rb rs).2.2.1) ((φ er d ng ([]:List Int) i rb rs).2.2.2.1) ((φ er d ng ([]:List Int) i rb rs).2.2.2.2)) else none
 | _,_,_,_,_,_,_=>none
abbrev KT_pX:Type:=Int→ByteArray→Bool→List Int→Int→Bool→ByteArray→Bool
abbrev FT_pX:Type:=Int→ByteArray→Bool→List Int→Int→Bool→ByteArray→Int×List Int×Int×Bool×ByteArray
def LL_pX (κ:KT_pX) (φ:FT_pX) (L:LTab):LTab:=addLn 0 16 p_pX [2,3,4,5,6,7] (told_pX κ φ) L
def phi_pX (er:Int) (d:ByteArray) (ng:Bool) (xs:List Int) (i:Int) (rb:Bool) (rs:ByteArray):Int×List Int×Int×Bool×ByteArray:=Classical.epsilon fun ρ=>LoopTo Tryz.prog (lb 16 p_pX) (sh_pX er d ng xs i rb rs) (hp_pX er d ng xs i rb rs) (.ret) (sh_pX (ρ.1) d ng (ρ.2.1) (ρ.2.2.1) (ρ.2.2.2.1) (ρ.2.2.2.2)) (hp_pX (ρ.1) d ng (ρ.2.1) (ρ.2.2.1) (ρ.2.2.2.1) (ρ.2.2.2.2))∧post_pX er d ng xs i rb rs ρ
theorem phi_pX_spec (er:Int) (d:ByteArray) (ng:Bool) (xs:List Int) (i:Int) (rb:Bool) (rs:ByteArray) (h:pre_pX er d ng xs i rb rs):LoopTo Tryz.prog (lb 16 p_pX) (sh_pX er d ng xs i rb rs) (hp_pX er d ng xs i rb rs) (.ret) (sh_pX ((phi_pX er d ng xs i rb rs).1) d ng ((phi_pX er d ng xs i rb rs).2.1) ((phi_pX er d ng xs i rb rs).2.2.1) ((phi_pX er d ng xs i rb rs).2.2.2.1) ((phi_pX er d ng xs i rb rs).2.2.2.2)) (hp_pX ((phi_pX er d ng xs i rb rs).1) d ng ((phi_pX er d ng xs i rb rs).2.1) ((phi_pX er d ng xs i rb rs).2.2.1) ((phi_pX er d ng xs i rb rs).2.2.2.1) ((phi_pX er d ng xs i rb rs).2.2.2.2))∧post_pX er d ng xs i rb rs (phi_pX er d ng xs i rb rs):=Classical.epsilon_spec (loop_pX er d ng xs i rb rs h)
def cond_pX (er:Int) (d:ByteArray) (ng:Bool) (xs:List Int) (i:Int) (rb:Bool) (rs:ByteArray):Bool:= @decide (pre_pX er d ng xs i rb rs) (Classical.propDecidable _)
theorem cond_pX_eq (er:Int) (d:ByteArray) (ng:Bool) (xs:List Int) (i:Int) (rb:Bool) (rs:ByteArray) (h:pre_pX er d ng xs i rb rs):cond_pX er d ng xs i rb rs=true:= @decide_eq_true _ (Classical.propDecidable _) h
theorem told_pX_ok (T:List AV) (H:Hp) (e:Ex) (T1:List AV) (H1:Hp) (h:told_pX cond_pX phi_pX T H=some (true,e,T1,H1)):V.Ends Tryz.prog false 0 0 (.loop (lb 16 p_pX)) T H e T1 H1:=by
 unfold told_pX at h
 split at h
 ·rename_i er d ng i rb rs h2 h3 h4 h5 h6 h7
  rw [Bool.cond_eq_ite] at h
  split at h
  ·rename_i hlen
   rw [beq_iff_eq] at hlen
   simp only [Option.some.injEq,Prod.mk.injEq,Bool.and_eq_true,decide_eq_true_eq] at h
   obtain ⟨k1,rfl,rfl,rfl⟩:=h
   have kc:= @of_decide_eq_true _ (Classical.propDecidable _) k1
   refine Ends.pre (phi_pX_spec er d ng ([]:List Int) i rb rs kc).1.ends (fun α B w D ys hr=>slots_rel hlen (fun p hp y hy=> ?_) hr)
   simp only [List.mem_cons,List.not_mem_nil,or_false] at hp
   rcases hp with rfl | rfl | rfl | rfl | rfl | rfl
   ·rw [h2] at hy;exact hy
   ·rw [h3] at hy;exact hy
   ·rw [h4] at hy;exact hy
   ·rw [h5] at hy;exact hy
   ·rw [h6] at hy;exact nil_lst hy
   ·rw [h7] at hy;exact hy
  ·cases h
 ·cases h
theorem LL_pX_ok {L:LTab} (h:LOk Tryz.prog L):LOk Tryz.prog (LL_pX cond_pX phi_pX L):=h.add2n body_pX told_pX_ok
end
end Go.Proofs.YtibaendebbicjaaGreat.L
namespace Go.Proofs.YtibaendebbicjaaGreat.L
open Go Go.V Go.RowKit Go.Proofs.YtibaendebbicjaaGreat.Sp Go.Proofs.YtibaendebbicjaaGreat.F
open Go.Proofs (Tryz.prog)
noncomputable section
def sgnT (s:ByteArray):Bool:=decide (0 < s.size)&&strEq (strSub s 0 1) (ByteArray.mk #[45])
def dgsT (s:ByteArray):ByteArray:=bif sgnT s then strSub s 1 s.size else s
def goodT (s:ByteArray):Prop:=0 < (dgsT s).size∧(∀ l,l < (dgsT s).size→okd (dgsT s) l)∧¬ (byteAt (dgsT s) 0=48∧(1 < (dgsT s).size∨sgnT s=true))
noncomputable def pkT (s:ByteArray):Int:=if 65536 < s.size then 4 else @ite _ (goodT s) (Classical.propDecidable _) 0 3
noncomputable def pvT (s:ByteArray):Int:= @ite _ (s.size≤65536∧goodT s) (Classical.propDecidable _) (sg0.sg (sgnT s) (vT (dgsT s) (dgsT s).size)) 0
theorem pkT_lim {s:ByteArray} (h:65536 < s.size):pkT s=4:=if_pos h
theorem pkT_good {s:ByteArray} (h:¬ 65536 < s.size) (g:goodT s):pkT s=0:=by unfold pkT;rw [if_neg h,if_pos g]
theorem pkT_bad {s:ByteArray} (h:¬ 65536 < s.size) (g:¬ goodT s):pkT s=3:=by unfold pkT;rw [if_neg h,if_neg g]
theorem pvT_lim {s:ByteArray} (h:65536 < s.size):pvT s=0:=by unfold pvT;rw [if_neg (fun g=>by omega)]
theorem pvT_good {s:ByteArray} (h:¬ 65536 < s.size) (g:goodT s):pvT s=sg0.sg (sgnT s) (vT (dgsT s) (dgsT s).size):=by unfold pvT;rw [if_pos ⟨by omega,g⟩]
theorem pvT_bad {s:ByteArray} (g:¬ goodT s):pvT s=0:=by unfold pvT;rw [if_neg (fun h=>g h.2)]
def tPrs (S:Sg) (pv pk:ByteArray→Int):List AV→Option (Bool×AV):=fun args=>match args with | [.val (.string s)]=>some (true, .tup [S.int (pv s), .val (.int .i64 (pk s))]) | _=>none
theorem strEq_sz (s:ByteArray):strEq s (ByteArray.mk #[])=decide (s.size=0):=by
 rw [strEq_iff]
 refine decide_eq_decide.2 ⟨fun h=>by rw [h];rfl,fun h=> ?_⟩
 apply bytes_ext
 have:s.data.toList.length=0:=by rw [Array.length_toList];exact h
 rw [List.eq_nil_of_length_eq_zero this]
theorem size_sub1 (s:ByteArray):(strSub s 1 s.size).size=s.size - 1:=by
 show (((s.data.toList.drop 1).take (s.size - 1)).toArray).size=_
 rw [List.size_toArray,List.length_take,List.length_drop,Array.length_toList]
 show min (s.size - 1) (s.size - 1)=_
 omega
theorem int_zero:sg0.int 0= .agg [.val (.bool false), .val (.string (ByteArray.mk #[]))]:=by
 have h1:sg0.ng 0=false:=ng_eq 0
 have h2:sg0.ms 0=ByteArray.mk #[]:=by
  apply bytes_ext
  show (magOf 0).data.toList=_
  rw [magOf_data,toB_zero]
 unfold Sg.int
 rw [h1,h2]
theorem sub_head {s:ByteArray} (h:0 < s.size):strEq (strSub s 0 1) (ByteArray.mk #[45])=decide (byteAt s 0=45):=by
 have hs:∃ c l,s.data.toList=c :: l:=by
  cases hl:s.data.toList with
  | nil=>
   have:s.data.toList.length=s.size:=by rw [Array.length_toList];rfl
   rw [hl] at this
   have:(0:Nat)=s.size:=this
   omega
  | cons c l=>exact ⟨c,l,rfl⟩
 obtain ⟨c,l,hl⟩:=hs
 have e1:byteAt s 0=((c.toNat:Nat):Int):=by unfold byteAt;rw [hl];rfl
 have e2:strEq (strSub s 0 1) (ByteArray.mk #[45])=([c]== [(45:UInt8)]):=by
  unfold strEq
  show ((s.data.toList.drop 0).take (1 - 0)== [45])=_
  rw [hl];rfl
 rw [e1,e2,Bool.eq_iff_iff]
 simp only [beq_iff_eq,List.cons.injEq,and_true,decide_eq_true_eq]
 constructor
 ·intro h;rw [h];rfl
 ·intro h
  apply UInt8.toNat_inj.1
  show c.toNat=45
  omega
def CPa (S:Sg):FuncId→List AV→Option (Bool×AV):=addC 37 (tPack S) noC
theorem parse_g (S:Sg) (κ:KT_pO) (φ:FT_pO) (s:ByteArray):letI q_4:=(φ (0:Int) s false [] (0:Int) false (ByteArray.mk #[]));letI q_1:Option AV:=(bif κ (0:Int) s false [] (0:Int) false (ByteArray.mk #[]) then (bif S.okr q_4.fst.length (lim q_4.fst) then some (.tup [(.agg [(.val (.bool (S.ng (S.sg false (S.num q_4.fst.length (lim q_4.fst)))))),(.val (.string (S.ms (S.sg false (S.num q_4.fst.length (lim q_4.fst))))))]),(.val (.int .i64 0))]) else none) else none);letI q_2:Option AV:=(bif strEq s (ByteArray.mk #[]) then some (.tup [(.agg [(.val (.bool false)),(.val (.string (ByteArray.mk #[])))]),(.val (.int .i64 3))]) else (bif decide ((0:Int) < (↑s.size:Int)) then (bif decide (byteAt s (0:Nat)=(48:Int)) then (bif decide ((1:Int) < (↑s.size:Int)) then some (.tup [(.agg [(.val (.bool false)),(.val (.string (ByteArray.mk #[])))]),(.val (.int .i64 3))]) else q_1) else q_1) else none));letI q_5:=(strSub s (1:Nat) s.size);letI q_3:=(φ (0:Int) q_5 true [] (0:Int) false (ByteArray.mk #[]));
  (callA Tryz.prog ⟨CPa S,fun _=>false,LL_pO κ φ noL⟩ 10 10 16 [.val (.string s)]=(bif decide ((65536:Int) < (↑s.size:Int)) then some (.tup [(.agg [(.val (.bool false)),(.val (.string (ByteArray.mk #[])))]),(.val (.int .i64 4))]) else (bif decide ((1:Int)≤(↑s.size:Int)) then (bif decide ((1:Int)≤(↑s.size:Int)) then (bif !strEq (strSub s (0:Nat) (1:Nat)) (ByteArray.mk #[(45:UInt8)]) then q_2 else (bif decide ((1:Int)≤(↑s.size:Int)) then (bif strEq q_5 (ByteArray.mk #[]) then some (.tup [(.agg [(.val (.bool false)),(.val (.string (ByteArray.mk #[])))]),(.val (.int .i64 3))]) else (bif decide ((0:Int) < (↑q_5.size:Int)) then (bif decide (byteAt q_5 (0:Nat)=(48:Int)) then (bif decide ((1:Int) < (↑q_5.size:Int)) then some (.tup [(.agg [(.val (.bool false)),(.val (.string (ByteArray.mk #[])))]),(.val (.int .i64 3))]) else some (.tup [(.agg [(.val (.bool false)),(.val (.string (ByteArray.mk #[])))]),(.val (.int .i64 3))])) else (bif κ (0:Int) q_5 true [] (0:Int) false (ByteArray.mk #[]) then (bif S.okr q_3.fst.length (lim q_3.fst) then some (.tup [(.agg [(.val (.bool (S.ng (S.sg true (S.num q_3.fst.length (lim q_3.fst)))))),(.val (.string (S.ms (S.sg true (S.num q_3.fst.length (lim q_3.fst))))))]),(.val (.int .i64 0))]) else none) else none)) else none)) else none)) else none) else q_2))):=by kernel_rfl
theorem parse_b (S:Sg) (κ:KT_pX) (φ:FT_pX) (s:ByteArray):letI q_5:=(φ (0:Int) s false [] (0:Int) false (ByteArray.mk #[]));letI q_2:Option AV:=(bif κ (0:Int) s false [] (0:Int) false (ByteArray.mk #[]) then some (.tup [(.agg [(.val (.bool (q_5.snd.snd.snd.fst))),(.val (.string (q_5.snd.snd.snd.snd)))]),(.val (.int .i64 (q_5.fst)))]) else none);letI q_1:Option AV:=(bif strEq s (ByteArray.mk #[]) then some (.tup [(.agg [(.val (.bool false)),(.val (.string (ByteArray.mk #[])))]),(.val (.int .i64 3))]) else (bif decide ((0:Int) < (↑s.size:Int)) then (bif decide (byteAt s (0:Nat)=(48:Int)) then (bif decide ((1:Int) < (↑s.size:Int)) then some (.tup [(.agg [(.val (.bool false)),(.val (.string (ByteArray.mk #[])))]),(.val (.int .i64 3))]) else q_2) else q_2) else none));letI q_3:=(strSub s (1:Nat) s.size);letI q_4:=(φ (0:Int) q_3 true [] (0:Int) false (ByteArray.mk #[]));
  (callA Tryz.prog ⟨CPa S,fun _=>false,LL_pX κ φ noL⟩ 10 10 16 [.val (.string s)]=(bif decide ((65536:Int) < (↑s.size:Int)) then some (.tup [(.agg [(.val (.bool false)),(.val (.string (ByteArray.mk #[])))]),(.val (.int .i64 4))]) else (bif decide ((1:Int)≤(↑s.size:Int)) then (bif decide ((1:Int)≤(↑s.size:Int)) then (bif !strEq (strSub s (0:Nat) (1:Nat)) (ByteArray.mk #[(45:UInt8)]) then q_1 else (bif decide ((1:Int)≤(↑s.size:Int)) then (bif strEq q_3 (ByteArray.mk #[]) then some (.tup [(.agg [(.val (.bool false)),(.val (.string (ByteArray.mk #[])))]),(.val (.int .i64 3))]) else (bif decide ((0:Int) < (↑q_3.size:Int)) then (bif decide (byteAt q_3 (0:Nat)=(48:Int)) then (bif decide ((1:Int) < (↑q_3.size:Int)) then some (.tup [(.agg [(.val (.bool false)),(.val (.string (ByteArray.mk #[])))]),(.val (.int .i64 3))]) else some (.tup [(.agg [(.val (.bool false)),(.val (.string (ByteArray.mk #[])))]),(.val (.int .i64 3))])) else (bif κ (0:Int) q_3 true [] (0:Int) false (ByteArray.mk #[]) then some (.tup [(.agg [(.val (.bool (q_4.snd.snd.snd.fst))),(.val (.string (q_4.snd.snd.snd.snd)))]),(.val (.int .i64 (q_4.fst)))]) else none)) else none)) else none)) else none) else q_1))):=by kernel_rfl
theorem CPa_ok:Meets Tryz.prog (CPa sg0):=(meets_none _).add ePack
theorem okr_dec {n i:Nat} (h:n < 10 ^ i) (hi:i≤1000000):sg0.okr (toL n).length (lim (toL n))=true:=okr_row (by have:=bs_dec h;omega)
theorem parse_ok (s:ByteArray) (h:65536 < s.size∨∀ l,l < (dgsT s).size→okd (dgsT s) l):callA Tryz.prog ⟨CPa sg0,fun _=>false,LL_pO cond_pO phi_pO noL⟩ 10 10 16 [.val (.string s)]=some (.tup [sg0.int (pvT s), .val (.int .i64 (pkT s))]):=by
 rw [parse_g]
 by_cases h0:65536 < s.size
 ·rw [dT (show (65536:Int) < (s.size:Int) by omega),pkT_lim h0,pvT_lim h0,int_zero];rfl
 have ho:=h.resolve_left h0
 rw [dF (show ¬ (65536:Int) < (s.size:Int) by omega)]
 have loopv:∀ (d:ByteArray) (ng:Bool),d.size≤65536→(∀ l,l < d.size→okd d l)→cond_pO 0 d ng [] 0 false (ByteArray.mk #[])=true∧(phi_pO 0 d ng [] 0 false (ByteArray.mk #[])).1=toL (vT d d.size)∧sg0.okr (toL (vT d d.size)).length (lim (toL (vT d d.size)))=true:=by
  intro d ng h1 h2
  have hq:pre_pO 0 d ng [] 0 false (ByteArray.mk #[]):= ⟨rfl,rfl,by omega,h2⟩
  exact ⟨cond_pO_eq _ _ _ _ _ _ _ hq,(phi_pO_spec _ _ _ _ _ _ _ hq).2,okr_dec (vT_lt h2) (by omega)⟩
 simp only [strEq_sz,size_sub1]
 by_cases hs:sgnT s=true
 ·have hd:dgsT s=strSub s 1 s.size:=by unfold dgsT;rw [hs];rfl
  have hs':=hs
  unfold sgnT at hs'
  rw [Bool.and_eq_true,decide_eq_true_eq] at hs'
  have hsz:(strSub s 1 s.size).size=s.size - 1:=size_sub1 s
  rw [hs'.2,dT (show (1:Int)≤(s.size:Int) by omega)]
  by_cases h1:s.size - 1=0
  ·have hb:¬ goodT s:=fun g=>by have:=g.1;rw [hd,hsz] at this;omega
   rw [dT h1,pkT_bad h0 hb,pvT_bad hb,int_zero];rfl
  ·rw [dF h1,dT (show (0:Int) < ((s.size - 1:Nat):Int) by omega)]
   by_cases h2:byteAt (strSub s 1 s.size) 0=48
   ·have hb:¬ goodT s:=fun g=>g.2.2 ⟨by rw [hd];exact h2, .inr hs⟩
    rw [dT h2,pkT_bad h0 hb,pvT_bad hb,int_zero]
    by_cases h3:(1:Int) < ((s.size - 1:Nat):Int)
    ·rw [dT h3];rfl
    ·rw [dF h3];rfl
   ·have g:goodT s:= ⟨by rw [hd,hsz];omega,ho,fun k=>h2 (by rw [← hd];exact k.1)⟩
    rw [hd] at ho
    obtain ⟨c1,c2,c3⟩:=loopv (strSub s 1 s.size) true (by omega) ho
    rw [dF h2,c1,c2,num_toL',c3,pkT_good h0 g,pvT_good h0 g,hs,hd];rfl
 ·have hd:dgsT s=s:=by unfold dgsT;rw [Bool.not_eq_true] at hs;rw [hs];rfl
  rw [hd] at ho
  have key:(bif decide (s.size=0) then some (AV.tup [(.agg [(.val (.bool false)),(.val (.string (ByteArray.mk #[])))]),(.val (.int .i64 3))]) else (bif decide ((0:Int) < (s.size:Int)) then (bif decide (byteAt s (0:Nat)=(48:Int)) then (bif decide ((1:Int) < (s.size:Int)) then some (.tup [(.agg [(.val (.bool false)),(.val (.string (ByteArray.mk #[])))]),(.val (.int .i64 3))]) else (bif cond_pO (0:Int) s false [] (0:Int) false (ByteArray.mk #[]) then (bif sg0.okr (phi_pO (0:Int) s false [] (0:Int) false (ByteArray.mk #[])).1.length (lim (phi_pO (0:Int) s false [] (0:Int) false (ByteArray.mk #[])).1) then some (.tup [(.agg [(.val (.bool (sg0.ng (sg0.sg false (sg0.num (phi_pO (0:Int) s false [] (0:Int) false (ByteArray.mk #[])).1.length (lim (phi_pO (0:Int) s false [] (0:Int) false (ByteArray.mk #[])).1)))))),(.val (.string (sg0.ms (sg0.sg false (sg0.num (phi_pO (0:Int) s false [] (0:Int) false (ByteArray.mk #[])).1.length (lim (phi_pO (0:Int) s false [] (0:Int) false (ByteArray.mk #[])).1))))))]),(.val (.int .i64 0))]) else none) else none)) else (bif cond_pO (0:Int) s false [] (0:Int) false (ByteArray.mk #[]) then (bif sg0.okr (phi_pO (0:Int) s false [] (0:Int) false (ByteArray.mk #[])).1.length (lim (phi_pO (0:Int) s false [] (0:Int) false (ByteArray.mk #[])).1) then some (.tup [(.agg [(.val (.bool (sg0.ng (sg0.sg false (sg0.num (phi_pO (0:Int) s false [] (0:Int) false (ByteArray.mk #[])).1.length (lim (phi_pO (0:Int) s false [] (0:Int) false (ByteArray.mk #[])).1)))))),(.val (.string (sg0.ms (sg0.sg false (sg0.num (phi_pO (0:Int) s false [] (0:Int) false (ByteArray.mk #[])).1.length (lim (phi_pO (0:Int) s false [] (0:Int) false (ByteArray.mk #[])).1))))))]),(.val (.int .i64 0))]) else none) else none)) else none))=some (.tup [sg0.int (pvT s), .val (.int .i64 (pkT s))]):=by
   by_cases h1:s.size=0
   ·have hb:¬ goodT s:=fun g=>by have:=g.1;rw [hd] at this;omega
    rw [dT h1,pkT_bad h0 hb,pvT_bad hb,int_zero];rfl
   ·rw [dF h1,dT (show (0:Int) < (s.size:Int) by omega)]
    obtain ⟨c1,c2,c3⟩:=loopv s false (by omega) ho
    by_cases h3:(1:Int) < (s.size:Int)
    ·by_cases h2:byteAt s 0=48
     ·have hb:¬ goodT s:=fun g=>g.2.2 ⟨by rw [hd];exact h2, .inl (by rw [hd];omega)⟩
      rw [dT h2,dT h3,pkT_bad h0 hb,pvT_bad hb,int_zero];rfl
     ·have g:goodT s:= ⟨by rw [hd];omega,by rw [hd];exact ho,fun k=>h2 (by rw [← hd];exact k.1)⟩
      rw [dF h2,c1,c2,num_toL',c3,pkT_good h0 g,pvT_good h0 g,Bool.eq_false_iff.2 hs,hd];rfl
    ·have g:goodT s:= ⟨by rw [hd];omega,by rw [hd];exact ho,fun k=>by
      rcases k.2 with k | k
      ·rw [hd] at k;omega
      ·exact hs k⟩
     rw [dF h3,c1,c2,num_toL',c3,pkT_good h0 g,pvT_good h0 g,Bool.eq_false_iff.2 hs,hd]
     cases decide (byteAt s 0=48) <;> rfl
  by_cases h1:s.size=0
  ·rw [dF (show ¬ (1:Int)≤(s.size:Int) by omega)];exact key
  ·have h2:strEq (strSub s 0 1) (ByteArray.mk #[45])=false:=by
    unfold sgnT at hs
    rw [dT (show 0 < s.size by omega),Bool.true_and,Bool.not_eq_true] at hs
    exact hs
   rw [dT (show (1:Int)≤(s.size:Int) by omega),h2];exact key
theorem first_bad {P:Nat→Prop} :∀ n,(∃ l,l < n∧¬ P l)→∃ m,m < n∧(∀ l,l < m→P l)∧¬ P m
 | 0, ⟨l,h,_⟩=>by omega
 | n+1, ⟨l,h,hb⟩=>by
  by_cases hk:∃ l,l < n∧¬ P l
  ·obtain ⟨m,h1,h2,h3⟩:=first_bad n hk
   exact ⟨m,by omega,h2,h3⟩
  ·have h2:∀ k,k < n→P k:=fun k hk2=>Classical.byContradiction fun hn=>hk ⟨k,hk2,hn⟩
   refine ⟨n,Nat.lt_succ_self n,h2, ?_⟩
   have:l=n:=by
    rcases Nat.lt_or_ge l n with h3 | h3
    ·exact absurd (h2 l h3) hb
    ·omega
   rw [← this];exact hb
theorem parse_bad (s:ByteArray) (h0:¬ 65536 < s.size) (hb:∃ l,l < (dgsT s).size∧¬ okd (dgsT s) l):callA Tryz.prog ⟨CPa sg0,fun _=>false,LL_pX cond_pX phi_pX noL⟩ 10 10 16 [.val (.string s)]=some (.tup [sg0.int (pvT s), .val (.int .i64 (pkT s))]):=by
 rw [parse_b]
 have hg:¬ goodT s:=fun g=>by
  obtain ⟨l,h1,h2⟩:=hb
  exact h2 (g.2.1 l h1)
 rw [dF (show ¬ (65536:Int) < (s.size:Int) by omega),pkT_bad h0 hg,pvT_bad hg,int_zero]
 have loopv:∀ (d:ByteArray) (ng:Bool),d.size≤65536→(∃ l,l < d.size∧¬ okd d l)→cond_pX 0 d ng [] 0 false (ByteArray.mk #[])=true∧(phi_pX 0 d ng [] 0 false (ByteArray.mk #[])).1=3∧(phi_pX 0 d ng [] 0 false (ByteArray.mk #[])).2.2.2.1=false∧(phi_pX 0 d ng [] 0 false (ByteArray.mk #[])).2.2.2.2=ByteArray.mk #[]:=by
  intro d ng h1 h2
  have hq:pre_pX 0 d ng [] 0 false (ByteArray.mk #[]):= ⟨rfl,rfl,by omega,first_bad _ h2⟩
  exact ⟨cond_pX_eq _ _ _ _ _ _ _ hq,(phi_pX_spec _ _ _ _ _ _ _ hq).2⟩
 simp only [strEq_sz,size_sub1]
 by_cases hs:sgnT s=true
 ·have hd:dgsT s=strSub s 1 s.size:=by unfold dgsT;rw [hs];rfl
  have hs':=hs
  unfold sgnT at hs'
  rw [Bool.and_eq_true,decide_eq_true_eq] at hs'
  have hsz:(strSub s 1 s.size).size=s.size - 1:=size_sub1 s
  rw [hd] at hb
  obtain ⟨c1,c2,c3,c4⟩:=loopv (strSub s 1 s.size) true (by omega) hb
  have h1:¬ s.size - 1=0:=by obtain ⟨l,h,_⟩:=hb;omega
  rw [hs'.2,dT (show (1:Int)≤(s.size:Int) by omega),dF h1,dT (show (0:Int) < ((s.size - 1:Nat):Int) by omega),c1,c2,c3,c4]
  cases decide (byteAt (strSub s 1 s.size) 0=48) <;> cases decide ((1:Int) < ((s.size - 1:Nat):Int)) <;> rfl
 ·have hd:dgsT s=s:=by unfold dgsT;rw [Bool.not_eq_true] at hs;rw [hs];rfl
  rw [hd] at hb
  obtain ⟨c1,c2,c3,c4⟩:=loopv s false (by omega) hb
  have h1:¬ s.size=0:=by obtain ⟨l,h,_⟩:=hb;omega
  have h2:strEq (strSub s 0 1) (ByteArray.mk #[45])=false:=by
   unfold sgnT at hs
   rw [dT (show 0 < s.size by omega),Bool.true_and,Bool.not_eq_true] at hs
   exact hs
  rw [dT (show (1:Int)≤(s.size:Int) by omega),h2,dF h1,dT (show (0:Int) < (s.size:Int) by omega),c1,c2,c3,c4]
  cases decide (byteAt s 0=48) <;> cases decide ((1:Int) < (s.size:Int)) <;> rfl
theorem eParse:Entry Tryz.prog 16 (tPrs sg0 pvT pkT):=by
 intro args r h
 unfold tPrs at h
 split at h
 ·rename_i s
  simp only [Option.some.injEq,Prod.mk.injEq,true_and] at h
  subst h
  intro B w xs hB hx
  by_cases hc:65536 < s.size∨∀ l,l < (dgsT s).size→okd (dgsT s) l
  ·exact callA_sound CPa_ok (LL_pO_ok LOk.none).ok mixed (by kernel_rfl) (parse_ok s hc) B w xs hB hx
  ·have h0:¬ 65536 < s.size:=fun h=>hc (.inl h)
   have hb:∃ l,l < (dgsT s).size∧¬ okd (dgsT s) l:=Classical.byContradiction fun hn=>hc (.inr fun l hl=>Classical.byContradiction fun hk=>hn ⟨l,hl,hk⟩)
   exact callA_sound CPa_ok (LL_pX_ok LOk.none).ok mixed (by kernel_rfl) (parse_bad s h0 hb) B w xs hB hx
 ·cases h
end
end Go.Proofs.YtibaendebbicjaaGreat.L
namespace Go.Proofs.YtibaendebbicjaaGreat.L
open Go Go.V Go.RowKit Go.Proofs.YtibaendebbicjaaGreat.Sp Go.Proofs.YtibaendebbicjaaGreat.F
open Go.Proofs (Tryz.prog)
noncomputable section
abbrev p_rc:List Bool:= [false,true,false,true,true,true,true,true]
def sh_rc (s:ByteArray) (er:Int) (d:ByteArray) (i:Int) (rb:Bool) (rs:ByteArray):List AV:=slots 117 [(0, .val (.string s)),(2, .ptr 0 0),(3, .val (.int .i64 er)),(4, .val (.string d)),(5, .val (.int .i64 i))]
def hp_rc (s:ByteArray) (er:Int) (d:ByteArray) (i:Int) (rb:Bool) (rs:ByteArray):Hp:= [.row (.cells [.val (.bool rb), .val (.string rs)]) 38 .live]
theorem body_rc:subC Tryz.prog 18 p_rc=some (.loop (lb 18 p_rc)):=by kernel_rfl
theorem code_rc:subC Tryz.prog 18 (false :: p_rc)=some (lb 18 p_rc):=by kernel_rfl
theorem round_rc (s:ByteArray) (er:Int) (d:ByteArray) (i:Int) (rb:Bool) (rs:ByteArray):
  (roundA Tryz.prog EL0 18 [0,2,3,4,5] (lb 18 p_rc) (false :: p_rc) (sh_rc s er d i rb rs) (hp_rc s er d i rb rs)=(bif decide (i < (↑d.size:Int)) then (bif decide ((0:Int)≤i)&&decide (i < (↑d.size:Int)) then (bif decide (byteAt d i.toNat < (48:Int)) then some (.ret,slots 117 [(0,(.val (.string s))),(2,(.ptr 0 0)),(3,(.val (.int .i64 3))),(4,(.val (.string d))),(5,(.val (.int .i64 i)))], [(.row (.cells [(.val (.bool false)),(.val (.string (ByteArray.mk #[])))]) 38 .live)]) else (bif decide ((0:Int)≤i)&&decide (i < (↑d.size:Int)) then (bif decide ((57:Int) < byteAt d i.toNat) then some (.ret,slots 117 [(0,(.val (.string s))),(2,(.ptr 0 0)),(3,(.val (.int .i64 3))),(4,(.val (.string d))),(5,(.val (.int .i64 i)))], [(.row (.cells [(.val (.bool false)),(.val (.string (ByteArray.mk #[])))]) 38 .live)]) else (bif inR IntKind.i64 (i+(1:Int)) then some (.normal,slots 117 [(0,(.val (.string s))),(2,(.ptr 0 0)),(3,(.val (.int .i64 er))),(4,(.val (.string d))),(5,(.val (.int .i64 (i+(1:Int)))))], [(.row (.cells [(.val (.bool rb)),(.val (.string rs))]) 38 .live)]) else none)) else none)) else none) else some ((.exit 0),slots 117 [(0,(.val (.string s))),(2,(.ptr 0 0)),(3,(.val (.int .i64 er))),(4,(.val (.string d))),(5,(.val (.int .i64 i)))], [(.row (.cells [(.val (.bool rb)),(.val (.string rs))]) 38 .live)]))):=by kernel_rfl
theorem step_rc {s:ByteArray} {er:Int} {d:ByteArray} {i:Int} {rb:Bool} {rs:ByteArray} {e:Ex} {T:List AV} {H:Hp} (h:roundA Tryz.prog EL0 18 [0,2,3,4,5] (lb 18 p_rc) (false :: p_rc) (sh_rc s er d i rb rs) (hp_rc s er d i rb rs)=some (e,T,H)):V.Ends Tryz.prog false 0 0 (lb 18 p_rc) (sh_rc s er d i rb rs) (hp_rc s er d i rb rs) e T H:=
 round_ends (meets_none _) loops_none mixed code_rc h
def pre_rc (s:ByteArray) (er:Int) (d:ByteArray) (i:Int) (rb:Bool) (rs:ByteArray):Prop:=i=0∧d.size≤1000000∧∀ l,l < d.size→okd d l
def post_rc (s:ByteArray) (er:Int) (d:ByteArray) (i:Int) (rb:Bool) (rs:ByteArray) (ρ:Int):Prop:=True
theorem rc_step (s:ByteArray) (er:Int) (d:ByteArray) (rb:Bool) (rs:ByteArray) {i:Nat} (hd:d.size≤1000000) (hi:i < d.size) (ho:okd d i):V.Ends Tryz.prog false 0 0 (lb 18 p_rc) (sh_rc s er d i rb rs) (hp_rc s er d i rb rs) .normal (sh_rc s er d ((i+1:Nat):Int) rb rs) (hp_rc s er d ((i+1:Nat):Int) rb rs):=by
 refine step_rc ?_
 obtain ⟨o1,o2⟩:=ho
 rw [round_rc,Int.toNat_natCast,dT (show (i:Int) < (d.size:Int) by omega),dT (show (0:Int)≤(i:Int) by omega),dF (show ¬ byteAt d i < 48 by omega),dF (show ¬ 57 < byteAt d i by omega),i64T (z:=(i:Int)+1) (by omega)]
 rfl
theorem rc_go (s:ByteArray) (er:Int) (d:ByteArray) (rb:Bool) (rs:ByteArray) (hd:d.size≤1000000) (ho:∀ l,l < d.size→okd d l) (r:Nat):∀ i,i+r=d.size→LoopTo Tryz.prog (lb 18 p_rc) (sh_rc s er d i rb rs) (hp_rc s er d i rb rs) (.exit 0) (sh_rc s er d d.size rb rs) (hp_rc s er d d.size rb rs):=by
 induction r with
 | zero=>
  intro i hi
  rw [show i=d.size by omega]
  refine .last (step_rc ?_) (by intro h;cases h)
  rw [round_rc,dF (show ¬ ((d.size:Nat):Int) < (d.size:Int) by omega)]
  rfl
 | succ r ih=>
  intro i hi
  exact .more (rc_step s er d rb rs hd (by omega) (ho i (by omega))) (ih (i+1) (by omega))
theorem loop_rc (s:ByteArray) (er:Int) (d:ByteArray) (i:Int) (rb:Bool) (rs:ByteArray) (h:pre_rc s er d i rb rs):∃ ρ:Int,LoopTo Tryz.prog (lb 18 p_rc) (sh_rc s er d i rb rs) (hp_rc s er d i rb rs) (.exit 0) (sh_rc s er d ρ rb rs) (hp_rc s er d ρ rb rs)∧post_rc s er d i rb rs ρ:=by
 obtain ⟨rfl,hd,ho⟩:=h
 exact ⟨d.size,rc_go s er d rb rs hd ho d.size 0 (by omega),trivial⟩
def told_rc (κ:ByteArray→Int→ByteArray→Int→Bool→ByteArray→Bool) (φ:ByteArray→Int→ByteArray→Int→Bool→ByteArray→Int) (T:List AV) (H:Hp):Option (Bool×Ex×List AV×Hp):=
 match lget T 0,lget T 2,lget T 3,lget T 4,lget T 5,H with
 | .val (.string s), .ptr 0 0, .val (.int .i64 er), .val (.string d), .val (.int .i64 i), [.row (.cells [.val (.bool rb), .val (.string rs)]) 38 .live]=>bif T.length==117 then some (κ s er d i rb rs, .exit 0,sh_rc s er d ((φ s er d i rb rs)) rb rs,hp_rc s er d ((φ s er d i rb rs)) rb rs) else none
 | _,_,_,_,_,_=>none
abbrev KT_rc:Type:=ByteArray→Int→ByteArray→Int→Bool→ByteArray→Bool
abbrev FT_rc:Type:=ByteArray→Int→ByteArray→Int→Bool→ByteArray→Int
def LL_rc (κ:KT_rc) (φ:FT_rc) (L:LTab):LTab:=addLn 0 18 p_rc [0,2,3,4,5] (told_rc κ φ) L
def phi_rc (s:ByteArray) (er:Int) (d:ByteArray) (i:Int) (rb:Bool) (rs:ByteArray):Int:=Classical.epsilon fun ρ=>LoopTo Tryz.prog (lb 18 p_rc) (sh_rc s er d i rb rs) (hp_rc s er d i rb rs) (.exit 0) (sh_rc s er d (ρ) rb rs) (hp_rc s er d (ρ) rb rs)∧post_rc s er d i rb rs ρ
theorem phi_rc_spec (s:ByteArray) (er:Int) (d:ByteArray) (i:Int) (rb:Bool) (rs:ByteArray) (h:pre_rc s er d i rb rs):LoopTo Tryz.prog (lb 18 p_rc) (sh_rc s er d i rb rs) (hp_rc s er d i rb rs) (.exit 0) (sh_rc s er d ((phi_rc s er d i rb rs)) rb rs) (hp_rc s er d ((phi_rc s er d i rb rs)) rb rs)∧post_rc s er d i rb rs (phi_rc s er d i rb rs):=Classical.epsilon_spec (loop_rc s er d i rb rs h)
def cond_rc (s:ByteArray) (er:Int) (d:ByteArray) (i:Int) (rb:Bool) (rs:ByteArray):Bool:= @decide (pre_rc s er d i rb rs) (Classical.propDecidable _)
theorem cond_rc_eq (s:ByteArray) (er:Int) (d:ByteArray) (i:Int) (rb:Bool) (rs:ByteArray) (h:pre_rc s er d i rb rs):cond_rc s er d i rb rs=true:= @decide_eq_true _ (Classical.propDecidable _) h
theorem told_rc_ok (T:List AV) (H:Hp) (e:Ex) (T1:List AV) (H1:Hp) (h:told_rc cond_rc phi_rc T H=some (true,e,T1,H1)):V.Ends Tryz.prog false 0 0 (.loop (lb 18 p_rc)) T H e T1 H1:=by
 unfold told_rc at h
 split at h
 ·rename_i s er d i rb rs h0 h2 h3 h4 h5
  rw [Bool.cond_eq_ite] at h
  split at h
  ·rename_i hlen
   rw [beq_iff_eq] at hlen
   simp only [Option.some.injEq,Prod.mk.injEq,Bool.and_eq_true,decide_eq_true_eq] at h
   obtain ⟨k1,rfl,rfl,rfl⟩:=h
   have kc:= @of_decide_eq_true _ (Classical.propDecidable _) k1
   refine Ends.pre (phi_rc_spec s er d i rb rs kc).1.ends (fun α B w D ys hr=>slots_rel hlen (fun p hp y hy=> ?_) hr)
   simp only [List.mem_cons,List.not_mem_nil,or_false] at hp
   rcases hp with rfl | rfl | rfl | rfl | rfl
   ·rw [h0] at hy;exact hy
   ·rw [h2] at hy;exact hy
   ·rw [h3] at hy;exact hy
   ·rw [h4] at hy;exact hy
   ·rw [h5] at hy;exact hy
  ·cases h
 ·cases h
theorem LL_rc_ok {L:LTab} (h:LOk Tryz.prog L):LOk Tryz.prog (LL_rc cond_rc phi_rc L):=h.add2n body_rc told_rc_ok
abbrev p_rx:List Bool:= [false,true,false,true,true,true,true,true]
def sh_rx (s:ByteArray) (er:Int) (d:ByteArray) (i:Int) (rb:Bool) (rs:ByteArray):List AV:=slots 117 [(0, .val (.string s)),(2, .ptr 0 0),(3, .val (.int .i64 er)),(4, .val (.string d)),(5, .val (.int .i64 i))]
def hp_rx (s:ByteArray) (er:Int) (d:ByteArray) (i:Int) (rb:Bool) (rs:ByteArray):Hp:= [.row (.cells [.val (.bool rb), .val (.string rs)]) 38 .live]
theorem body_rx:subC Tryz.prog 18 p_rx=some (.loop (lb 18 p_rx)):=by kernel_rfl
def pre_rx (s:ByteArray) (er:Int) (d:ByteArray) (i:Int) (rb:Bool) (rs:ByteArray):Prop:=i=0∧d.size≤1000000∧∃ m,m < d.size∧(∀ l,l < m→okd d l)∧¬ okd d m
def post_rx (s:ByteArray) (er:Int) (d:ByteArray) (i:Int) (rb:Bool) (rs:ByteArray) (ρ:Int×Int×Bool×ByteArray):Prop:=ρ.1=3∧ρ.2.2.1=false∧ρ.2.2.2=ByteArray.mk #[]
theorem rx_go (s:ByteArray) (er:Int) (d:ByteArray) (rb:Bool) (rs:ByteArray) (hd:d.size≤1000000) (m:Nat) (hm:m < d.size) (ho:∀ l,l < m→okd d l) (hb:¬ okd d m) (r:Nat):∀ i,i+r=m→LoopTo Tryz.prog (lb 18 p_rc) (sh_rc s er d i rb rs) (hp_rc s er d i rb rs) .ret (sh_rc s 3 d m false (ByteArray.mk #[])) (hp_rc s 3 d m false (ByteArray.mk #[])):=by
 induction r with
 | zero=>
  intro i hi
  rw [show i=m by omega]
  refine .last (step_rc ?_) (by intro h;cases h)
  rw [round_rc,Int.toNat_natCast,dT (show (m:Int) < (d.size:Int) by omega),dT (show (0:Int)≤(m:Int) by omega)]
  by_cases h1:byteAt d m < 48
  ·rw [dT h1];rfl
  ·have h2:57 < byteAt d m:=Int.lt_of_not_ge fun h=>hb ⟨by omega,h⟩
   rw [dF h1,dT h2];rfl
 | succ r ih=>
  intro i hi
  exact .more (rc_step s er d rb rs hd (by omega) (ho i (by omega))) (ih (i+1) (by omega))
theorem loop_rx (s:ByteArray) (er:Int) (d:ByteArray) (i:Int) (rb:Bool) (rs:ByteArray) (h:pre_rx s er d i rb rs):∃ ρ:Int×Int×Bool×ByteArray,LoopTo Tryz.prog (lb 18 p_rx) (sh_rx s er d i rb rs) (hp_rx s er d i rb rs) .ret (sh_rx s ρ.1 d ρ.2.1 ρ.2.2.1 ρ.2.2.2) (hp_rx s ρ.1 d ρ.2.1 ρ.2.2.1 ρ.2.2.2)∧post_rx s er d i rb rs ρ:=by
 obtain ⟨rfl,hd,m,hm,ho,hb⟩:=h
 exact ⟨(3,(m:Int),false,ByteArray.mk #[]),rx_go s er d rb rs hd m hm ho hb m 0 (by omega),rfl,rfl,rfl⟩
def told_rx (κ:ByteArray→Int→ByteArray→Int→Bool→ByteArray→Bool) (φ:ByteArray→Int→ByteArray→Int→Bool→ByteArray→Int×Int×Bool×ByteArray) (T:List AV) (H:Hp):Option (Bool×Ex×List AV×Hp):=
 match lget T 0,lget T 2,lget T 3,lget T 4,lget T 5,H with
 | .val (.string s), .ptr 0 0, .val (.int .i64 er), .val (.string d), .val (.int .i64 i), [.row (.cells [.val (.bool rb), .val (.string rs)]) 38 .live]=>bif T.length==117 then some (κ s er d i rb rs, .ret,sh_rx s ((φ s er d i rb rs).1) d ((φ s er d i rb rs).2.1) ((φ s er d i rb rs).2.2.1) ((φ s er d i rb rs).2.2.2),hp_rx s ((φ s er d i rb rs).1) d ((φ s er d i rb rs).2.1) ((φ s er d i rb rs).2.2.1) ((φ s er d i rb rs).2.2.2)) else none
 | _,_,_,_,_,_=>none
abbrev KT_rx:Type:=ByteArray→Int→ByteArray→Int→Bool→ByteArray→Bool
abbrev FT_rx:Type:=ByteArray→Int→ByteArray→Int→Bool→ByteArray→Int×Int×Bool×ByteArray
def LL_rx (κ:KT_rx) (φ:FT_rx) (L:LTab):LTab:=addLn 0 18 p_rx [0,2,3,4,5] (told_rx κ φ) L
def phi_rx (s:ByteArray) (er:Int) (d:ByteArray) (i:Int) (rb:Bool) (rs:ByteArray):Int×Int×Bool×ByteArray:=Classical.epsilon fun ρ=>LoopTo Tryz.prog (lb 18 p_rx) (sh_rx s er d i rb rs) (hp_rx s er d i rb rs) (.ret) (sh_rx s (ρ.1) d (ρ.2.1) (ρ.2.2.1) (ρ.2.2.2)) (hp_rx s (ρ.1) d (ρ.2.1) (ρ.2.2.1) (ρ.2.2.2))∧post_rx s er d i rb rs ρ
theorem phi_rx_spec (s:ByteArray) (er:Int) (d:ByteArray) (i:Int) (rb:Bool) (rs:ByteArray) (h:pre_rx s er d i rb rs):LoopTo Tryz.prog (lb 18 p_rx) (sh_rx s er d i rb rs) (hp_rx s er d i rb rs) (.ret) (sh_rx s ((phi_rx s er d i rb rs).1) d ((phi_rx s er d i rb rs).2.1) ((phi_rx s er d i rb rs).2.2.1) ((phi_rx s er d i rb rs).2.2.2)) (hp_rx s ((phi_rx s er d i rb rs).1) d ((phi_rx s er d i rb rs).2.1) ((phi_rx s er d i rb rs).2.2.1) ((phi_rx s er d i rb rs).2.2.2))∧post_rx s er d i rb rs (phi_rx s er d i rb rs):=Classical.epsilon_spec (loop_rx s er d i rb rs h)
def cond_rx (s:ByteArray) (er:Int) (d:ByteArray) (i:Int) (rb:Bool) (rs:ByteArray):Bool:= @decide (pre_rx s er d i rb rs) (Classical.propDecidable _)
theorem cond_rx_eq (s:ByteArray) (er:Int) (d:ByteArray) (i:Int) (rb:Bool) (rs:ByteArray) (h:pre_rx s er d i rb rs):cond_rx s er d i rb rs=true:= @decide_eq_true _ (Classical.propDecidable _) h
theorem told_rx_ok (T:List AV) (H:Hp) (e:Ex) (T1:List AV) (H1:Hp) (h:told_rx cond_rx phi_rx T H=some (true,e,T1,H1)):V.Ends Tryz.prog false 0 0 (.loop (lb 18 p_rx)) T H e T1 H1:=by
 unfold told_rx at h
 split at h
 ·rename_i s er d i rb rs h0 h2 h3 h4 h5
  rw [Bool.cond_eq_ite] at h
  split at h
  ·rename_i hlen
   rw [beq_iff_eq] at hlen
   simp only [Option.some.injEq,Prod.mk.injEq,Bool.and_eq_true,decide_eq_true_eq] at h
   obtain ⟨k1,rfl,rfl,rfl⟩:=h
   have kc:= @of_decide_eq_true _ (Classical.propDecidable _) k1
   refine Ends.pre (phi_rx_spec s er d i rb rs kc).1.ends (fun α B w D ys hr=>slots_rel hlen (fun p hp y hy=> ?_) hr)
   simp only [List.mem_cons,List.not_mem_nil,or_false] at hp
   rcases hp with rfl | rfl | rfl | rfl | rfl
   ·rw [h0] at hy;exact hy
   ·rw [h2] at hy;exact hy
   ·rw [h3] at hy;exact hy
   ·rw [h4] at hy;exact hy
   ·rw [h5] at hy;exact hy
  ·cases h
 ·cases h
theorem LL_rx_ok {L:LTab} (h:LOk Tryz.prog L):LOk Tryz.prog (LL_rx cond_rx phi_rx L):=h.add2n body_rx told_rx_ok
theorem vI_acc:∀ (l:List Int) (n:Nat),l.foldl (fun n z=>n*256+z.toNat) n=n*256 ^ l.length+vI l
 | [],n=>by show n=n*1+0;omega
 | x :: l,n=>by
  have h1:=vI_acc l (n*256+x.toNat)
  have h2:=vI_acc l (0*256+x.toNat)
  show l.foldl _ (n*256+x.toNat)=n*256 ^ (l.length+1)+l.foldl _ (0*256+x.toNat)
  rw [h1,h2,Nat.pow_succ,Nat.add_mul,Nat.add_mul,Nat.zero_mul,Nat.mul_assoc,Nat.mul_comm 256]
  omega
theorem vI_append (a b:List Int):vI (a ++ b)=vI a*256 ^ b.length+vI b:=by
 show (a ++ b).foldl _ 0=_
 rw [List.foldl_append]
 exact vI_acc b _
theorem vI_cons (c:Nat) (l:List Int):vI ((c:Int) :: l)=c*256 ^ l.length+vI l:=by
 have:=vI_append [(c:Int)] l
 rw [show vI [(c:Int)]=c by show 0*256+c=c;omega] at this
 exact this
theorem vI_rep:∀ n,vI (List.replicate n 0)=0
 | 0=>rfl
 | n+1=>by
  rw [List.replicate_succ]
  have:=vI_cons 0 (List.replicate n 0)
  rw [vI_rep n,Nat.zero_mul] at this
  exact this
abbrev p_ri:List Bool:= [false,true,false,true,false,false,true,false,false,true,false,true,true,true,true,true,true,true,true]
def sh_ri (s:ByteArray) (d:ByteArray) (bs:List Int) (u:Int) (i:Int) (c:Int) (k:Int) (rb:Bool) (rs:ByteArray):List AV:=slots 117 [(0, .val (.string s)),(2, .ptr 0 0),(4, .val (.string d)),(6, .sl false 5 1 0 bs.length),(7, .val (.int .i64 u)),(8, .val (.int .i64 i)),(9, .val (.int .i64 c)),(10, .val (.int .i64 k))]
def hp_ri (s:ByteArray) (d:ByteArray) (bs:List Int) (u:Int) (i:Int) (c:Int) (k:Int) (rb:Bool) (rs:ByteArray):Hp:= [.row (.cells [.val (.bool rb), .val (.string rs)]) 38 .live, .row (.ints .u8 bs) 5 .live]
theorem body_ri:subC Tryz.prog 18 p_ri=some (.loop (lb 18 p_ri)):=by kernel_rfl
theorem code_ri:subC Tryz.prog 18 (false :: p_ri)=some (lb 18 p_ri):=by kernel_rfl
theorem round_ri (s:ByteArray) (d:ByteArray) (bs:List Int) (u:Int) (i:Int) (c:Int) (k:Int) (rb:Bool) (rs:ByteArray):letI q_1:=((0:Nat)+((↑bs.length:Int) - k).toNat*(1:Nat));
  (roundA Tryz.prog EL0 18 [0,2,4,6,7,8,9,10] (lb 18 p_ri) (false :: p_ri) (sh_ri s d bs u i c k rb rs) (hp_ri s d bs u i c k rb rs)=(bif decide (k≤u) then (bif inR IntKind.i64 ((↑bs.length:Int) - k) then (bif decide ((0:Int)≤(↑bs.length:Int) - k)&&decide ((↑bs.length:Int) - k < (↑bs.length:Int)) then (bif decide ((0:Nat)+((↑bs.length:Int) - k).toNat*(1:Nat) < bs.length) then (bif inR IntKind.i64 (bs.getD q_1 (0:Int)) then (bif inR IntKind.i64 ((10:Int)*bs.getD q_1 (0:Int)) then (bif inR IntKind.i64 (c+(10:Int)*bs.getD q_1 (0:Int)) then (bif inR IntKind.i64 ((↑bs.length:Int) - k) then (bif decide ((0:Int)≤(↑bs.length:Int) - k)&&decide ((↑bs.length:Int) - k < (↑bs.length:Int)) then (bif decide ((0:Nat)+((↑bs.length:Int) - k).toNat*(1:Nat) < bs.length) then (bif inR IntKind.i64 (k+(1:Int)) then some (.normal,slots 117 [(0,(.val (.string s))),(2,(.ptr 0 0)),(4,(.val (.string d))),(6,(.sl false 5 1 0 bs.length)),(7,(.val (.int .i64 u))),(8,(.val (.int .i64 i))),(9,(.val (.int .i64 ((c+(10:Int)*bs.getD q_1 (0:Int)).fdiv (256:Int))))),(10,(.val (.int .i64 (k+(1:Int)))))], [(.row (.cells [(.val (.bool rb)),(.val (.string rs))]) 38 .live),(.row (.ints .u8 (bs.set q_1 (IntKind.u8.wrap (c+(10:Int)*bs.getD q_1 (0:Int))))) 5 .live)]) else none) else none) else none) else none) else none) else none) else none) else none) else none) else none) else some ((.exit 4),slots 117 [(0,(.val (.string s))),(2,(.ptr 0 0)),(4,(.val (.string d))),(6,(.sl false 5 1 0 bs.length)),(7,(.val (.int .i64 u))),(8,(.val (.int .i64 i))),(9,(.val (.int .i64 c))),(10,(.val (.int .i64 k)))], [(.row (.cells [(.val (.bool rb)),(.val (.string rs))]) 38 .live),(.row (.ints .u8 bs) 5 .live)]))):=by kernel_rfl
theorem step_ri {s:ByteArray} {d:ByteArray} {bs:List Int} {u:Int} {i:Int} {c:Int} {k:Int} {rb:Bool} {rs:ByteArray} {e:Ex} {T:List AV} {H:Hp} (h:roundA Tryz.prog EL0 18 [0,2,4,6,7,8,9,10] (lb 18 p_ri) (false :: p_ri) (sh_ri s d bs u i c k rb rs) (hp_ri s d bs u i c k rb rs)=some (e,T,H)):V.Ends Tryz.prog false 0 0 (lb 18 p_ri) (sh_ri s d bs u i c k rb rs) (hp_ri s d bs u i c k rb rs) e T H:=
 round_ends (meets_none _) loops_none mixed code_ri h
def pre_ri (s d:ByteArray) (bs:List Int) (u i c k:Int) (rb:Bool) (rs:ByteArray):Prop:=k=1∧0≤c∧c≤9∧okb bs∧bs.length≤1000000∧∃ m:Nat,u=m∧m≤bs.length
def post_ri (s d:ByteArray) (bs:List Int) (u i c k:Int) (rb:Bool) (rs:ByteArray) (ρ:List Int×Int×Int):Prop:=∃ (B:List Int) (c':Nat),ρ.1=bs.take (bs.length - u.toNat) ++ B∧B.length=u.toNat∧okb B∧ρ.2.1=c'∧c'≤9∧vI B+256 ^ u.toNat*c'=10*vI (bs.drop (bs.length - u.toNat))+c.toNat
theorem ri_go (s d:ByteArray) (i:Int) (rb:Bool) (rs:ByteArray) (Z os:List Int) (c0:Nat) (ho:okb os) (hl:Z.length+os.length≤1000000) (r:Nat):∀ (B:List Int) (c:Nat),B.length+r=os.length→okb B→c≤9→vI B+256 ^ B.length*c=10*vI (os.drop r)+c0→
  ∃ ρ:List Int×Int×Int,LoopTo Tryz.prog (lb 18 p_ri) (sh_ri s d (Z ++ os.take r ++ B) os.length i c ((B.length:Int)+1) rb rs) (hp_ri s d (Z ++ os.take r ++ B) os.length i c ((B.length:Int)+1) rb rs) (.exit 4) (sh_ri s d ρ.1 os.length i ρ.2.1 ρ.2.2 rb rs) (hp_ri s d ρ.1 os.length i ρ.2.1 ρ.2.2 rb rs)∧
   ∃ (B:List Int) (c':Nat),ρ.1=Z ++ B∧B.length=os.length∧okb B∧ρ.2.1=c'∧c'≤9∧vI B+256 ^ os.length*c'=10*vI os+c0:=by
 induction r with
 | zero=>
  intro B c hB hb hc hv
  have e:Z ++ os.take 0 ++ B=Z ++ B:=by rw [List.take_zero,List.append_nil]
  have hB':B.length=os.length:=by omega
  rw [List.drop_zero,hB'] at hv
  refine ⟨(Z ++ B,(c:Int),(B.length:Int)+1), .last (step_ri ?_) (by intro h;cases h),B,c,rfl,hB',hb,rfl,hc,hv⟩
  rw [e,round_ri,dF (show ¬ (B.length:Int)+1≤(os.length:Int) by omega)]
  rfl
 | succ r ih=>
  intro B c hB hb hc hv
  have hr:r < os.length:=by omega
  obtain ⟨x,hx,hex,_⟩:=okb_get ho hr
  have htk:os.take (r+1)=os.take r ++ [(x:Int)]:=by rw [List.take_succ_eq_append_getElem hr,hex]
  have hdr:os.drop r=(x:Int) :: os.drop (r+1):=by rw [List.drop_eq_getElem_cons hr,hex]
  have e:Z ++ os.take (r+1) ++ B=(Z ++ os.take r) ++ (x:Int) :: B:=by rw [htk];simp
  have e2:∀ y:Int,(Z ++ os.take r) ++ y :: B=Z ++ os.take r ++ ([y] ++ B):=fun y=>rfl
  have lP:(Z ++ os.take r).length=Z.length+r:=by rw [List.length_append,List.length_take];omega
  have lA:∀ y:Int,((Z ++ os.take r) ++ y :: B).length=Z.length+os.length:=fun y=>by rw [List.length_append,List.length_cons,lP];omega
  have hr0:=round_ri s d ((Z ++ os.take r) ++ (x:Int) :: B) os.length i c ((B.length:Int)+1) rb rs
  have ei:0+((((Z ++ os.take r) ++ (x:Int) :: B).length:Int) - ((B.length:Int)+1)).toNat*1=(Z ++ os.take r).length:=by rw [lA,lP];omega
  simp only [ei,get_mid,set_mid] at hr0
  have et:(c:Int)+10*(x:Int)=((c+10*x:Nat):Int):=by omega
  have ew:IntKind.u8.wrap ((c+10*x:Nat):Int)=(((c+10*x) % 256:Nat):Int):=by rw [IntKind.wrap_u8];omega
  have ef:((c+10*x:Nat):Int).fdiv 256=(((c+10*x) / 256:Nat):Int):=fdivN _ 256
  rw [et,ew,ef,lA,dT (show (B.length:Int)+1≤(os.length:Int) by omega),i64T (z:=((Z.length+os.length:Nat):Int) - ((B.length:Int)+1)) (by omega),dT (show (0:Int)≤((Z.length+os.length:Nat):Int) - ((B.length:Int)+1) by omega),dT (show ((Z.length+os.length:Nat):Int) - ((B.length:Int)+1) < ((Z.length+os.length:Nat):Int) by omega),dT (show (Z ++ os.take r).length < Z.length+os.length by rw [lP];omega),i64T (z:=(x:Int)) (by omega),i64T (z:=10*(x:Int)) (by omega),i64T (z:=((c+10*x:Nat):Int)) (by omega),i64T (z:=(B.length:Int)+1+1) (by omega)] at hr0
  have hv2:vI ((((c+10*x) % 256:Nat):Int) :: B)+256 ^ ((((c+10*x) % 256:Nat):Int) :: B).length*((c+10*x) / 256)=10*vI (os.drop r)+c0:=by
   have hld:(os.drop (r+1)).length=B.length:=by rw [List.length_drop];omega
   rw [vI_cons,List.length_cons,hdr,vI_cons,hld,Nat.pow_succ,Nat.mul_assoc]
   have h0:=Nat.div_add_mod (c+10*x) 256
   generalize 256 ^ B.length=p at*
   generalize (c+10*x) / 256=q at*
   generalize (c+10*x) % 256=m at*
   have h1:m*p+p*(256*q)=p*c+10*(x*p):=by
    rw [Nat.mul_comm m,← Nat.mul_add,Nat.add_comm,h0,Nat.mul_add,Nat.mul_left_comm,Nat.mul_comm p x]
   rw [Nat.mul_add]
   omega
  obtain ⟨ρ,g1,g2⟩:=ih ((((c+10*x) % 256:Nat):Int) :: B) ((c+10*x) / 256) (by rw [List.length_cons];omega) (by
   intro z hz
   rcases List.mem_cons.1 hz with rfl | hz
   ·exact ⟨(c+10*x) % 256,Nat.mod_lt _ (by decide),rfl⟩
   ·exact hb z hz) (by omega) hv2
  refine ⟨ρ, ?_,g2⟩
  rw [e]
  refine .more (step_ri (hr0.trans ?_)) g1
  unfold sh_ri hp_ri
  rw [lA,List.length_cons,show ((B.length+1:Nat):Int)+1=(B.length:Int)+1+1 by omega]
  rfl
theorem loop_ri (s d:ByteArray) (bs:List Int) (u i c k:Int) (rb:Bool) (rs:ByteArray) (h:pre_ri s d bs u i c k rb rs):∃ ρ:List Int×Int×Int,LoopTo Tryz.prog (lb 18 p_ri) (sh_ri s d bs u i c k rb rs) (hp_ri s d bs u i c k rb rs) (.exit 4) (sh_ri s d ρ.1 u i ρ.2.1 ρ.2.2 rb rs) (hp_ri s d ρ.1 u i ρ.2.1 ρ.2.2 rb rs)∧post_ri s d bs u i c k rb rs ρ:=by
 obtain ⟨rfl,hc,hc9,hb,hl,m,rfl,hm⟩:=h
 obtain ⟨c,rfl⟩:=Int.eq_ofNat_of_zero_le hc
 have ld:(bs.drop (bs.length - m)).length=m:=by rw [List.length_drop];omega
 have lt:(bs.take (bs.length - m)).length=bs.length - m:=by rw [List.length_take];omega
 obtain ⟨ρ,g1,B,c',g2,g3,g4,g5,g6,g7⟩:=ri_go s d i rb rs (bs.take (bs.length - m)) (bs.drop (bs.length - m)) c (fun z hz=>hb z (List.mem_of_mem_drop hz)) (by rw [ld,lt];omega) m [] c (by rw [ld];show 0+m=m;omega) okb_nil (by omega) (by
  rw [show (bs.drop (bs.length - m)).drop m= [] from List.drop_of_length_le (by rw [ld];exact Nat.le_refl _)]
  show 0+256 ^ 0*c=10*0+c
  omega)
 rw [ld] at g1 g3 g7
 rw [List.append_nil,show (bs.drop (bs.length - m)).take m=bs.drop (bs.length - m) from List.take_of_length_le (by rw [ld];exact Nat.le_refl _),List.take_append_drop,show ((([]:List Int).length:Nat):Int)+1=1 from rfl] at g1
 exact ⟨ρ,g1,B,c',g2,g3,g4,g5,g6,g7⟩
def told_ri (κ:ByteArray→ByteArray→List Int→Int→Int→Int→Int→Bool→ByteArray→Bool) (φ:ByteArray→ByteArray→List Int→Int→Int→Int→Int→Bool→ByteArray→List Int×Int×Int) (T:List AV) (H:Hp):Option (Bool×Ex×List AV×Hp):=
 match lget T 0,lget T 2,lget T 4,lget T 6,lget T 7,lget T 8,lget T 9,lget T 10,H with
 | .val (.string s), .ptr 0 0, .val (.string d), .sl false 5 1 0 m_bs, .val (.int .i64 u), .val (.int .i64 i), .val (.int .i64 c), .val (.int .i64 k), [.row (.cells [.val (.bool rb), .val (.string rs)]) 38 .live, .row (.ints .u8 bs) 5 .live]=>bif T.length==117 then some (decide (m_bs=bs.length)&&κ s d bs u i c k rb rs, .exit 4,sh_ri s d ((φ s d bs u i c k rb rs).1) u i ((φ s d bs u i c k rb rs).2.1) ((φ s d bs u i c k rb rs).2.2) rb rs,hp_ri s d ((φ s d bs u i c k rb rs).1) u i ((φ s d bs u i c k rb rs).2.1) ((φ s d bs u i c k rb rs).2.2) rb rs) else none
 | _,_,_,_,_,_,_,_,_=>none
abbrev KT_ri:Type:=ByteArray→ByteArray→List Int→Int→Int→Int→Int→Bool→ByteArray→Bool
abbrev FT_ri:Type:=ByteArray→ByteArray→List Int→Int→Int→Int→Int→Bool→ByteArray→List Int×Int×Int
def LL_ri (κ:KT_ri) (φ:FT_ri) (L:LTab):LTab:=addLn 0 18 p_ri [0,2,4,6,7,8,9,10] (told_ri κ φ) L
def phi_ri (s:ByteArray) (d:ByteArray) (bs:List Int) (u:Int) (i:Int) (c:Int) (k:Int) (rb:Bool) (rs:ByteArray):List Int×Int×Int:=Classical.epsilon fun ρ=>LoopTo Tryz.prog (lb 18 p_ri) (sh_ri s d bs u i c k rb rs) (hp_ri s d bs u i c k rb rs) (.exit 4) (sh_ri s d (ρ.1) u i (ρ.2.1) (ρ.2.2) rb rs) (hp_ri s d (ρ.1) u i (ρ.2.1) (ρ.2.2) rb rs)∧post_ri s d bs u i c k rb rs ρ
theorem phi_ri_spec (s:ByteArray) (d:ByteArray) (bs:List Int) (u:Int) (i:Int) (c:Int) (k:Int) (rb:Bool) (rs:ByteArray) (h:pre_ri s d bs u i c k rb rs):LoopTo Tryz.prog (lb 18 p_ri) (sh_ri s d bs u i c k rb rs) (hp_ri s d bs u i c k rb rs) (.exit 4) (sh_ri s d ((phi_ri s d bs u i c k rb rs).1) u i ((phi_ri s d bs u i c k rb rs).2.1) ((phi_ri s d bs u i c k rb rs).2.2) rb rs) (hp_ri s d ((phi_ri s d bs u i c k rb rs).1) u i ((phi_ri s d bs u i c k rb rs).2.1) ((phi_ri s d bs u i c k rb rs).2.2) rb rs)∧post_ri s d bs u i c k rb rs (phi_ri s d bs u i c k rb rs):=Classical.epsilon_spec (loop_ri s d bs u i c k rb rs h)
def cond_ri (s:ByteArray) (d:ByteArray) (bs:List Int) (u:Int) (i:Int) (c:Int) (k:Int) (rb:Bool) (rs:ByteArray):Bool:= @decide (pre_ri s d bs u i c k rb rs) (Classical.propDecidable _)
theorem cond_ri_eq (s:ByteArray) (d:ByteArray) (bs:List Int) (u:Int) (i:Int) (c:Int) (k:Int) (rb:Bool) (rs:ByteArray) (h:pre_ri s d bs u i c k rb rs):cond_ri s d bs u i c k rb rs=true:= @decide_eq_true _ (Classical.propDecidable _) h
theorem told_ri_ok (T:List AV) (H:Hp) (e:Ex) (T1:List AV) (H1:Hp) (h:told_ri cond_ri phi_ri T H=some (true,e,T1,H1)):V.Ends Tryz.prog false 0 0 (.loop (lb 18 p_ri)) T H e T1 H1:=by
 unfold told_ri at h
 split at h
 ·rename_i s d m_bs u i c k rb rs bs h0 h2 h4 h6 h7 h8 h9 h10
  rw [Bool.cond_eq_ite] at h
  split at h
  ·rename_i hlen
   rw [beq_iff_eq] at hlen
   simp only [Option.some.injEq,Prod.mk.injEq,Bool.and_eq_true,decide_eq_true_eq] at h
   obtain ⟨⟨k1,k2⟩,rfl,rfl,rfl⟩:=h
   have kc:= @of_decide_eq_true _ (Classical.propDecidable _) k2
   refine Ends.pre (phi_ri_spec s d bs u i c k rb rs kc).1.ends (fun α B w D ys hr=>slots_rel hlen (fun p hp y hy=> ?_) hr)
   simp only [List.mem_cons,List.not_mem_nil,or_false] at hp
   rcases hp with rfl | rfl | rfl | rfl | rfl | rfl | rfl | rfl
   ·rw [h0] at hy;exact hy
   ·rw [h2] at hy;exact hy
   ·rw [h4] at hy;exact hy
   ·rw [h6] at hy;rw [← k1];exact hy
   ·rw [h7] at hy;exact hy
   ·rw [h8] at hy;exact hy
   ·rw [h9] at hy;exact hy
   ·rw [h10] at hy;exact hy
  ·cases h
 ·cases h
theorem LL_ri_ok {L:LTab} (h:LOk Tryz.prog L):LOk Tryz.prog (LL_ri cond_ri phi_ri L):=h.add2n body_ri told_ri_ok
end
end Go.Proofs.YtibaendebbicjaaGreat.L
namespace Go.Proofs.YtibaendebbicjaaGreat.L
open Go Go.V Go.RowKit Go.Proofs.YtibaendebbicjaaGreat.Sp Go.Proofs.YtibaendebbicjaaGreat.F
open Go.Proofs (Tryz.prog)
noncomputable section
def ErO (κ:KT_ri) (φ:FT_ri):Env:= ⟨noC,fun _=>false,LL_ri κ φ noL⟩
abbrev p_ro:List Bool:= [false,true,false,true,true,true,true,true,true,true,true]
def sh_ro (s:ByteArray) (d:ByteArray) (bs:List Int) (u:Int) (i:Int) (rb:Bool) (rs:ByteArray):List AV:=slots 117 [(0, .val (.string s)),(2, .ptr 0 0),(4, .val (.string d)),(6, .sl false 5 1 0 bs.length),(7, .val (.int .i64 u)),(8, .val (.int .i64 i))]
def hp_ro (s:ByteArray) (d:ByteArray) (bs:List Int) (u:Int) (i:Int) (rb:Bool) (rs:ByteArray):Hp:= [.row (.cells [.val (.bool rb), .val (.string rs)]) 38 .live, .row (.ints .u8 bs) 5 .live]
theorem body_ro:subC Tryz.prog 18 p_ro=some (.loop (lb 18 p_ro)):=by kernel_rfl
theorem code_ro:subC Tryz.prog 18 (false :: p_ro)=some (lb 18 p_ro):=by kernel_rfl
theorem round_ro (κ:KT_ri) (φ:FT_ri) (s:ByteArray) (d:ByteArray) (bs:List Int) (u:Int) (i:Int) (rb:Bool) (rs:ByteArray):letI q_2:=(IntKind.u8.wrap (byteAt d i.toNat - (48:Int)));letI q_1:=(φ s d bs u i q_2 (1:Int) rb rs);
  (roundA Tryz.prog (ErO κ φ) 18 [0,2,4,6,7,8] (lb 18 p_ro) (false :: p_ro) (sh_ro s d bs u i rb rs) (hp_ro s d bs u i rb rs)=(bif decide (i < (↑d.size:Int)) then (bif decide ((0:Int)≤i)&&decide (i < (↑d.size:Int)) then (bif inR IntKind.i64 q_2 then (bif decide (bs.length=bs.length)&&κ s d bs u i q_2 (1:Int) rb rs then (bif decide ((0:Int) < q_1.snd.fst) then (bif inR IntKind.i64 (u+(1:Int)) then (bif inR IntKind.i64 ((↑q_1.fst.length:Int) - (u+(1:Int))) then (bif decide ((0:Int)≤(↑q_1.fst.length:Int) - (u+(1:Int)))&&decide ((↑q_1.fst.length:Int) - (u+(1:Int)) < (↑q_1.fst.length:Int)) then (bif decide ((0:Nat)+((↑q_1.fst.length:Int) - (u+(1:Int))).toNat*(1:Nat) < q_1.fst.length) then (bif inR IntKind.i64 (i+(1:Int)) then some (.normal,slots 117 [(0,(.val (.string s))),(2,(.ptr 0 0)),(4,(.val (.string d))),(6,(.sl false 5 1 0 (q_1.fst.length))),(7,(.val (.int .i64 (u+(1:Int))))),(8,(.val (.int .i64 (i+(1:Int)))))], [(.row (.cells [(.val (.bool rb)),(.val (.string rs))]) 38 .live),(.row (.ints .u8 (q_1.fst.set ((0:Nat)+((↑q_1.fst.length:Int) - (u+(1:Int))).toNat*(1:Nat)) (IntKind.u8.wrap q_1.snd.fst))) 5 .live)]) else none) else none) else none) else none) else none) else (bif inR IntKind.i64 (i+(1:Int)) then some (.normal,slots 117 [(0,(.val (.string s))),(2,(.ptr 0 0)),(4,(.val (.string d))),(6,(.sl false 5 1 0 (q_1.fst.length))),(7,(.val (.int .i64 u))),(8,(.val (.int .i64 (i+(1:Int)))))], [(.row (.cells [(.val (.bool rb)),(.val (.string rs))]) 38 .live),(.row (.ints .u8 (q_1.fst)) 5 .live)]) else none)) else none) else none) else none) else some ((.exit 2),slots 117 [(0,(.val (.string s))),(2,(.ptr 0 0)),(4,(.val (.string d))),(6,(.sl false 5 1 0 bs.length)),(7,(.val (.int .i64 u))),(8,(.val (.int .i64 i)))], [(.row (.cells [(.val (.bool rb)),(.val (.string rs))]) 38 .live),(.row (.ints .u8 bs) 5 .live)]))):=by kernel_rfl
theorem step_ro {s:ByteArray} {d:ByteArray} {bs:List Int} {u:Int} {i:Int} {rb:Bool} {rs:ByteArray} {e:Ex} {T:List AV} {H:Hp} (h:roundA Tryz.prog (ErO cond_ri phi_ri) 18 [0,2,4,6,7,8] (lb 18 p_ro) (false :: p_ro) (sh_ro s d bs u i rb rs) (hp_ro s d bs u i rb rs)=some (e,T,H)):V.Ends Tryz.prog false 0 0 (lb 18 p_ro) (sh_ro s d bs u i rb rs) (hp_ro s d bs u i rb rs) e T H:=
 round_ends (meets_none _) (LL_ri_ok LOk.none).ok mixed code_ro h
def pre_ro (s d:ByteArray) (bs:List Int) (u i:Int) (rb:Bool) (rs:ByteArray):Prop:=bs=List.replicate d.size 0∧u=0∧i=0∧d.size≤1000000∧∀ l,l < d.size→okd d l
def post_ro (s d:ByteArray) (bs:List Int) (u i:Int) (rb:Bool) (rs:ByteArray) (ρ:List Int×Int×Int):Prop:=okb ρ.1∧vI ρ.1=vT d d.size∧ρ.1.length=d.size
def zw (L:Nat) (ws:List Int):List Int:=List.replicate (L - ws.length) 0 ++ ws
theorem zw_len {L:Nat} {ws:List Int} (h:ws.length≤L):(zw L ws).length=L:=by unfold zw;rw [List.length_append,List.length_replicate];omega
theorem zw_ok {L:Nat} {ws:List Int} (h:okb ws):okb (zw L ws):=by
 intro z hz
 rcases List.mem_append.1 hz with hz | hz
 ·rw [List.mem_replicate] at hz;exact ⟨0,by decide,hz.2⟩
 ·exact h z hz
theorem zw_v (L:Nat) (ws:List Int):vI (zw L ws)=vI ws:=by unfold zw;rw [vI_append,vI_rep,Nat.zero_mul,Nat.zero_add]
theorem dig_byte {d:ByteArray} {i:Nat} (h:okd d i):IntKind.u8.wrap (byteAt d i - 48)=((dig d i:Nat):Int):=by
 have h1:=h.1
 have h2:=h.2
 unfold dig
 rw [IntKind.wrap_u8]
 omega
theorem ro_step (s d:ByteArray) (rb:Bool) (rs:ByteArray) (hd:d.size≤1000000) {i:Nat} (hi:i < d.size) (ho:okd d i) {ws:List Int} (hw:okb ws) (hl:ws.length≤i) (hv:vI ws=vT d i):
  ∃ ws':List Int,okb ws'∧ws'.length≤i+1∧vI ws'=vT d (i+1)∧V.Ends Tryz.prog false 0 0 (lb 18 p_ro) (sh_ro s d (zw d.size ws) ws.length i rb rs) (hp_ro s d (zw d.size ws) ws.length i rb rs) .normal (sh_ro s d (zw d.size ws') ws'.length ((i+1:Nat):Int) rb rs) (hp_ro s d (zw d.size ws') ws'.length ((i+1:Nat):Int) rb rs):=by
 have lz:=zw_len (L:=d.size) (ws:=ws) (by omega)
 have hdl:=dig_lt ho
 have hq:pre_ri s d (zw d.size ws) ws.length i ((dig d i:Nat):Int) 1 rb rs:= ⟨rfl,by omega,by omega,zw_ok hw,by rw [lz];exact hd,ws.length,rfl,by rw [lz];omega⟩
 have hs:=(phi_ri_spec _ _ _ _ _ _ _ _ _ hq).2
 have hr:=round_ro cond_ri phi_ri s d (zw d.size ws) ws.length i rb rs
 rw [Int.toNat_natCast,dig_byte ho,cond_ri_eq _ _ _ _ _ _ _ _ _ hq,dT (show (i:Int) < (d.size:Int) by omega),dT (show (0:Int)≤(i:Int) by omega),i64T (z:=((dig d i:Nat):Int)) (by omega),dT (rfl:(zw d.size ws).length=(zw d.size ws).length),i64T (z:=(i:Int)+1) (by omega)] at hr
 generalize phi_ri s d (zw d.size ws) ws.length i ((dig d i:Nat):Int) 1 rb rs=ρ at*
 obtain ⟨B,c,g1,g2,g3,g4,g5,g6⟩:=hs
 rw [Int.toNat_natCast] at g1 g2 g6
 have e1:(zw d.size ws).take ((zw d.size ws).length - ws.length)=List.replicate (d.size - ws.length) 0:=by
  rw [lz];unfold zw;exact List.take_left' List.length_replicate
 have e2:(zw d.size ws).drop ((zw d.size ws).length - ws.length)=ws:=by
  rw [lz];unfold zw;exact List.drop_left' List.length_replicate
 rw [e1] at g1
 rw [e2,Int.toNat_natCast] at g6
 have gv:10*vI ws+dig d i=vT d (i+1):=by rw [hv];show _=vT d i*10+dig d i;omega
 rw [gv] at g6
 rcases Nat.eq_zero_or_pos c with h0 | h0
 ·subst h0
  rw [Nat.mul_zero,Nat.add_zero] at g6
  refine ⟨B,g3,by omega,g6,step_ro (hr.trans ?_)⟩
  have ez:ρ.1=zw d.size B:=by rw [g1];unfold zw;rw [g2]
  have lB:=zw_len (L:=d.size) (ws:=B) (by omega)
  rw [g4,dF (show ¬ (0:Int) < ((0:Nat):Int) by decide),ez]
  unfold sh_ro hp_ro
  rw [g2]
  rfl
 ·have ls:List.replicate (d.size - ws.length) (0:Int) ++ B=List.replicate (d.size - (ws.length+1)) 0 ++ 0 :: B:=by
   rw [show d.size - ws.length=d.size - (ws.length+1)+1 by omega,List.replicate_succ',List.append_assoc];rfl
  have lr:(List.replicate (d.size - (ws.length+1)) (0:Int)).length=d.size - (ws.length+1):=List.length_replicate
  have lρ:ρ.1.length=d.size:=by rw [g1,List.length_append,List.length_replicate];omega
  have ei:0+((d.size:Int) - ((ws.length:Int)+1)).toNat*1=(List.replicate (d.size - (ws.length+1)) (0:Int)).length:=by rw [lr];omega
  have ew:IntKind.u8.wrap ((c:Nat):Int)=(c:Int):=by rw [IntKind.wrap_u8];omega
  rw [g4,lρ,ei,ew,g1,ls,set_mid,dT (show (0:Int) < ((c:Nat):Int) by omega),i64T (z:=(ws.length:Int)+1) (by omega),i64T (z:=(d.size:Int) - ((ws.length:Int)+1)) (by omega),dT (show (0:Int)≤(d.size:Int) - ((ws.length:Int)+1) by omega),dT (show (d.size:Int) - ((ws.length:Int)+1) < (d.size:Int) by omega),lr,dT (show d.size - (ws.length+1) < d.size by omega)] at hr
  have ez:List.replicate (d.size - (ws.length+1)) (0:Int) ++ (c:Int) :: B=zw d.size ((c:Int) :: B):=by unfold zw;rw [List.length_cons,g2]
  refine ⟨(c:Int) :: B, ?_,by rw [List.length_cons];omega, ?_,step_ro (hr.trans ?_)⟩
  ·intro z hz
   rcases List.mem_cons.1 hz with rfl | hz
   ·exact ⟨c,by omega,rfl⟩
   ·exact g3 z hz
  ·rw [vI_cons,g2,Nat.mul_comm,Nat.add_comm];exact g6
  ·have lB:=zw_len (L:=d.size) (ws:=(c:Int) :: B) (by rw [List.length_cons];omega)
   unfold sh_ro hp_ro
   rw [ez,lB,List.length_cons,g2]
   rfl
theorem ro_go (s d:ByteArray) (rb:Bool) (rs:ByteArray) (hd:d.size≤1000000) (ho:∀ l,l < d.size→okd d l) (r:Nat):∀ (i:Nat) (ws:List Int),i+r=d.size→okb ws→ws.length≤i→vI ws=vT d i→∃ ρ:List Int×Int×Int,LoopTo Tryz.prog (lb 18 p_ro) (sh_ro s d (zw d.size ws) ws.length i rb rs) (hp_ro s d (zw d.size ws) ws.length i rb rs) (.exit 2) (sh_ro s d ρ.1 ρ.2.1 ρ.2.2 rb rs) (hp_ro s d ρ.1 ρ.2.1 ρ.2.2 rb rs)∧okb ρ.1∧vI ρ.1=vT d d.size∧ρ.1.length=d.size:=by
 induction r with
 | zero=>
  intro i ws hi hw hl hv
  have hi':i=d.size:=by omega
  subst hi'
  refine ⟨(zw d.size ws,(ws.length:Int),(d.size:Int)), .last (step_ro ?_) (by intro h;cases h),zw_ok hw,by rw [zw_v];exact hv,zw_len hl⟩
  rw [round_ro,dF (show ¬ ((d.size:Nat):Int) < (d.size:Int) by omega)]
  rfl
 | succ r ih=>
  intro i ws hi hw hl hv
  obtain ⟨ws',h1,h2,h3,h4⟩:=ro_step s d rb rs hd (show i < d.size by omega) (ho i (by omega)) hw hl hv
  obtain ⟨ρ,g1,g2⟩:=ih (i+1) ws' (by omega) h1 h2 h3
  exact ⟨ρ, .more h4 g1,g2⟩
theorem loop_ro (s d:ByteArray) (bs:List Int) (u i:Int) (rb:Bool) (rs:ByteArray) (h:pre_ro s d bs u i rb rs):∃ ρ:List Int×Int×Int,LoopTo Tryz.prog (lb 18 p_ro) (sh_ro s d bs u i rb rs) (hp_ro s d bs u i rb rs) (.exit 2) (sh_ro s d ρ.1 ρ.2.1 ρ.2.2 rb rs) (hp_ro s d ρ.1 ρ.2.1 ρ.2.2 rb rs)∧post_ro s d bs u i rb rs ρ:=by
 obtain ⟨rfl,rfl,rfl,hd,ho⟩:=h
 obtain ⟨ρ,h1,h2⟩:=ro_go s d rb rs hd ho d.size 0 [] (by omega) okb_nil (Nat.le_refl _) rfl
 rw [show zw d.size []=List.replicate d.size 0 from List.append_nil _] at h1
 exact ⟨ρ,h1,h2⟩
def told_ro (κ:ByteArray→ByteArray→List Int→Int→Int→Bool→ByteArray→Bool) (φ:ByteArray→ByteArray→List Int→Int→Int→Bool→ByteArray→List Int×Int×Int) (T:List AV) (H:Hp):Option (Bool×Ex×List AV×Hp):=
 match lget T 0,lget T 2,lget T 4,lget T 6,lget T 7,lget T 8,H with
 | .val (.string s), .ptr 0 0, .val (.string d), .sl false 5 1 0 m_bs, .val (.int .i64 u), .val (.int .i64 i), [.row (.cells [.val (.bool rb), .val (.string rs)]) 38 .live, .row (.ints .u8 bs) 5 .live]=>bif T.length==117 then some (decide (m_bs=bs.length)&&κ s d bs u i rb rs, .exit 2,sh_ro s d ((φ s d bs u i rb rs).1) ((φ s d bs u i rb rs).2.1) ((φ s d bs u i rb rs).2.2) rb rs,hp_ro s d ((φ s d bs u i rb rs).1) ((φ s d bs u i rb rs).2.1) ((φ s d bs u i rb rs).2.2) rb rs) else none
 | _,_,_,_,_,_,_=>none
abbrev KT_ro:Type:=ByteArray→ByteArray→List Int→Int→Int→Bool→ByteArray→Bool
abbrev FT_ro:Type:=ByteArray→ByteArray→List Int→Int→Int→Bool→ByteArray→List Int×Int×Int
def LL_ro (κ:KT_ro) (φ:FT_ro) (L:LTab):LTab:=addLn 0 18 p_ro [0,2,4,6,7,8] (told_ro κ φ) L
def phi_ro (s:ByteArray) (d:ByteArray) (bs:List Int) (u:Int) (i:Int) (rb:Bool) (rs:ByteArray):List Int×Int×Int:=Classical.epsilon fun ρ=>LoopTo Tryz.prog (lb 18 p_ro) (sh_ro s d bs u i rb rs) (hp_ro s d bs u i rb rs) (.exit 2) (sh_ro s d (ρ.1) (ρ.2.1) (ρ.2.2) rb rs) (hp_ro s d (ρ.1) (ρ.2.1) (ρ.2.2) rb rs)∧post_ro s d bs u i rb rs ρ
theorem phi_ro_spec (s:ByteArray) (d:ByteArray) (bs:List Int) (u:Int) (i:Int) (rb:Bool) (rs:ByteArray) (h:pre_ro s d bs u i rb rs):LoopTo Tryz.prog (lb 18 p_ro) (sh_ro s d bs u i rb rs) (hp_ro s d bs u i rb rs) (.exit 2) (sh_ro s d ((phi_ro s d bs u i rb rs).1) ((phi_ro s d bs u i rb rs).2.1) ((phi_ro s d bs u i rb rs).2.2) rb rs) (hp_ro s d ((phi_ro s d bs u i rb rs).1) ((phi_ro s d bs u i rb rs).2.1) ((phi_ro s d bs u i rb rs).2.2) rb rs)∧post_ro s d bs u i rb rs (phi_ro s d bs u i rb rs):=Classical.epsilon_spec (loop_ro s d bs u i rb rs h)
def cond_ro (s:ByteArray) (d:ByteArray) (bs:List Int) (u:Int) (i:Int) (rb:Bool) (rs:ByteArray):Bool:= @decide (pre_ro s d bs u i rb rs) (Classical.propDecidable _)
theorem cond_ro_eq (s:ByteArray) (d:ByteArray) (bs:List Int) (u:Int) (i:Int) (rb:Bool) (rs:ByteArray) (h:pre_ro s d bs u i rb rs):cond_ro s d bs u i rb rs=true:= @decide_eq_true _ (Classical.propDecidable _) h
theorem told_ro_ok (T:List AV) (H:Hp) (e:Ex) (T1:List AV) (H1:Hp) (h:told_ro cond_ro phi_ro T H=some (true,e,T1,H1)):V.Ends Tryz.prog false 0 0 (.loop (lb 18 p_ro)) T H e T1 H1:=by
 unfold told_ro at h
 split at h
 ·rename_i s d m_bs u i rb rs bs h0 h2 h4 h6 h7 h8
  rw [Bool.cond_eq_ite] at h
  split at h
  ·rename_i hlen
   rw [beq_iff_eq] at hlen
   simp only [Option.some.injEq,Prod.mk.injEq,Bool.and_eq_true,decide_eq_true_eq] at h
   obtain ⟨⟨k1,k2⟩,rfl,rfl,rfl⟩:=h
   have kc:= @of_decide_eq_true _ (Classical.propDecidable _) k2
   refine Ends.pre (phi_ro_spec s d bs u i rb rs kc).1.ends (fun α B w D ys hr=>slots_rel hlen (fun p hp y hy=> ?_) hr)
   simp only [List.mem_cons,List.not_mem_nil,or_false] at hp
   rcases hp with rfl | rfl | rfl | rfl | rfl | rfl
   ·rw [h0] at hy;exact hy
   ·rw [h2] at hy;exact hy
   ·rw [h4] at hy;exact hy
   ·rw [h6] at hy;rw [← k1];exact hy
   ·rw [h7] at hy;exact hy
   ·rw [h8] at hy;exact hy
  ·cases h
 ·cases h
theorem LL_ro_ok {L:LTab} (h:LOk Tryz.prog L):LOk Tryz.prog (LL_ro cond_ro phi_ro L):=h.add2n body_ro told_ro_ok
end
end Go.Proofs.YtibaendebbicjaaGreat.L
namespace Go.Proofs.YtibaendebbicjaaGreat.L
open Go Go.V Go.RowKit Go.Proofs.YtibaendebbicjaaGreat.Sp Go.Proofs.YtibaendebbicjaaGreat.F
open Go.Proofs (Tryz.prog)
noncomputable section
def CRPa (S:Sg):FuncId→List AV→Option (Bool×AV):=addC 41 (tCanon S) noC
theorem rparse_g (S:Sg) (κ1:KT_rc) (φ1:FT_rc) (κ:KT_ro) (φ:FT_ro) (s:ByteArray):letI q_10:=(List.replicate (↑s.size:Int).toNat (0:Int));letI q_4:=(φ s s q_10 (0:Int) (0:Int) false (ByteArray.mk #[]));letI q_7:=(S.val (decide ((↑s.size:Int) < (↑s.size:Int))) (ofBytes (List.take (q_4.fst.length*(1:Nat)) (List.drop (0:Nat) q_4.fst))));letI q_1:Option AV:=(bif κ1 s (0:Int) s (0:Int) false (ByteArray.mk #[]) then (bif decide ((↑s.size:Int)≤(↑s.size:Int))&&decide ((1:Int)*(↑s.size:Int)≤(281474976710656:Int))&&decide ((↑s.size:Int)≤(9223372036854775807:Int)) then (bif decide ((↑s.size:Int).toNat=q_10.length)&&κ s s q_10 (0:Int) (0:Int) false (ByteArray.mk #[]) then (bif decide ((0:Nat)+q_4.fst.length*(1:Nat)≤q_4.fst.length) then some (.tup [(.agg [(.val (.bool (S.ng q_7))),(.val (.string (S.ms q_7)))]),(.val (.int .i64 0))]) else none) else none) else none) else none);letI q_9:=(strSub s (1:Nat) s.size);letI q_6:=(↑q_9.size:Int);letI q_3:=(φ s q_9 (List.replicate q_6.toNat (0:Int)) (0:Int) (0:Int) false (ByteArray.mk #[]));letI q_8:=(S.val (decide (q_6 < (↑s.size:Int))) (ofBytes (List.take (q_3.fst.length*(1:Nat)) (List.drop (0:Nat) q_3.fst))));letI q_2:Option AV:=(bif κ1 s (0:Int) q_9 (0:Int) false (ByteArray.mk #[]) then (bif decide (q_6≤q_6)&&decide ((1:Int)*q_6≤(281474976710656:Int))&&decide (q_6≤(9223372036854775807:Int)) then (bif decide (q_6.toNat=(List.replicate q_6.toNat (0:Int)).length)&&κ s q_9 (List.replicate q_6.toNat (0:Int)) (0:Int) (0:Int) false (ByteArray.mk #[]) then (bif decide ((0:Nat)+q_3.fst.length*(1:Nat)≤q_3.fst.length) then some (.tup [(.agg [(.val (.bool (S.ng q_8))),(.val (.string (S.ms q_8)))]),(.val (.int .i64 0))]) else none) else none) else none) else none);letI q_5:Option AV:=(bif strEq s (ByteArray.mk #[]) then some (.tup [(.agg [(.val (.bool false)),(.val (.string (ByteArray.mk #[])))]),(.val (.int .i64 3))]) else (bif decide ((0:Int) < (↑s.size:Int)) then (bif decide (byteAt s (0:Nat)=(48:Int)) then (bif decide ((1:Int) < (↑s.size:Int)) then some (.tup [(.agg [(.val (.bool false)),(.val (.string (ByteArray.mk #[])))]),(.val (.int .i64 3))]) else q_1) else q_1) else none));
  (callA Tryz.prog ⟨CRPa S,fun _=>false,LL_rc κ1 φ1 (LL_ro κ φ noL)⟩ 10 10 18 [.val (.string s)]=(bif decide ((65536:Int) < (↑s.size:Int)) then some (.tup [(.agg [(.val (.bool false)),(.val (.string (ByteArray.mk #[])))]),(.val (.int .i64 4))]) else (bif decide ((0:Int) < (↑s.size:Int)) then (bif decide ((0:Int) < (↑s.size:Int)) then (bif decide (byteAt s (0:Nat)=(45:Int)) then (bif decide ((1:Int)≤(↑s.size:Int)) then (bif strEq q_9 (ByteArray.mk #[]) then some (.tup [(.agg [(.val (.bool false)),(.val (.string (ByteArray.mk #[])))]),(.val (.int .i64 3))]) else (bif decide ((0:Int) < q_6) then (bif decide (byteAt q_9 (0:Nat)=(48:Int)) then (bif decide ((1:Int) < (↑s.size:Int)) then some (.tup [(.agg [(.val (.bool false)),(.val (.string (ByteArray.mk #[])))]),(.val (.int .i64 3))]) else q_2) else q_2) else none)) else none) else q_5) else none) else q_5))):=by kernel_rfl
theorem rparse_b (S:Sg) (κ:KT_rx) (φ:FT_rx) (s:ByteArray):letI q_5:=(φ s (0:Int) s (0:Int) false (ByteArray.mk #[]));letI q_3:Option AV:=(bif κ s (0:Int) s (0:Int) false (ByteArray.mk #[]) then some (.tup [(.agg [(.val (.bool (q_5.snd.snd.fst))),(.val (.string (q_5.snd.snd.snd)))]),(.val (.int .i64 (q_5.fst)))]) else none);letI q_1:Option AV:=(bif strEq s (ByteArray.mk #[]) then some (.tup [(.agg [(.val (.bool false)),(.val (.string (ByteArray.mk #[])))]),(.val (.int .i64 3))]) else (bif decide ((0:Int) < (↑s.size:Int)) then (bif decide (byteAt s (0:Nat)=(48:Int)) then (bif decide ((1:Int) < (↑s.size:Int)) then some (.tup [(.agg [(.val (.bool false)),(.val (.string (ByteArray.mk #[])))]),(.val (.int .i64 3))]) else q_3) else q_3) else none));letI q_6:=(strSub s (1:Nat) s.size);letI q_4:=(φ s (0:Int) q_6 (0:Int) false (ByteArray.mk #[]));letI q_2:Option AV:=(bif κ s (0:Int) q_6 (0:Int) false (ByteArray.mk #[]) then some (.tup [(.agg [(.val (.bool (q_4.snd.snd.fst))),(.val (.string (q_4.snd.snd.snd)))]),(.val (.int .i64 (q_4.fst)))]) else none);
  (callA Tryz.prog ⟨CRPa S,fun _=>false,LL_rx κ φ noL⟩ 10 10 18 [.val (.string s)]=(bif decide ((65536:Int) < (↑s.size:Int)) then some (.tup [(.agg [(.val (.bool false)),(.val (.string (ByteArray.mk #[])))]),(.val (.int .i64 4))]) else (bif decide ((0:Int) < (↑s.size:Int)) then (bif decide ((0:Int) < (↑s.size:Int)) then (bif decide (byteAt s (0:Nat)=(45:Int)) then (bif decide ((1:Int)≤(↑s.size:Int)) then (bif strEq q_6 (ByteArray.mk #[]) then some (.tup [(.agg [(.val (.bool false)),(.val (.string (ByteArray.mk #[])))]),(.val (.int .i64 3))]) else (bif decide ((0:Int) < (↑q_6.size:Int)) then (bif decide (byteAt q_6 (0:Nat)=(48:Int)) then (bif decide ((1:Int) < (↑s.size:Int)) then some (.tup [(.agg [(.val (.bool false)),(.val (.string (ByteArray.mk #[])))]),(.val (.int .i64 3))]) else q_2) else q_2) else none)) else none) else q_1) else none) else q_1))):=by kernel_rfl
theorem CRPa_ok:Meets Tryz.prog (CRPa sg0):=(meets_none _).add eCanon
theorem vS_okb {l:List Int} (h:okb l):vS (ofBytes l)=vI l:=by
 unfold vS ofBytes vB vI
 show List.foldl _ 0 ((l.map fun z=>UInt8.ofNat z.toNat))=_
 rw [List.foldl_map]
 have key:∀ (l:List Int) (n:Nat),okb l→l.foldl (fun n z=>n*256+(UInt8.ofNat z.toNat).toNat) n=l.foldl (fun n z=>n*256+z.toNat) n:=by
  intro l
  induction l with
  | nil=>intro n _;rfl
  | cons x l ih=>
   intro n h
   obtain ⟨c,hc,rfl⟩:=h x List.mem_cons_self
   show l.foldl _ (n*256+(UInt8.ofNat ((c:Int)).toNat).toNat)=l.foldl _ (n*256+((c:Int)).toNat)
   rw [Int.toNat_natCast,UInt8.toNat_ofNat',Nat.mod_eq_of_lt (by omega)]
   exact ih _ (fun z hz=>h z (List.mem_cons_of_mem _ hz))
 exact key l 0 h
theorem rparse_ok (s:ByteArray) (h:65536 < s.size∨∀ l,l < (dgsT s).size→okd (dgsT s) l):callA Tryz.prog ⟨CRPa sg0,fun _=>false,LL_rc cond_rc phi_rc (LL_ro cond_ro phi_ro noL)⟩ 10 10 18 [.val (.string s)]=some (.tup [sg0.int (pvT s), .val (.int .i64 (pkT s))]):=by
 rw [rparse_g]
 by_cases h0:65536 < s.size
 ·rw [dT (show (65536:Int) < (s.size:Int) by omega),pkT_lim h0,pvT_lim h0,int_zero];rfl
 have ho:=h.resolve_left h0
 rw [dF (show ¬ (65536:Int) < (s.size:Int) by omega)]
 have loopv:∀ d:ByteArray,d.size≤65536→(∀ l,l < d.size→okd d l)→cond_rc s 0 d 0 false (ByteArray.mk #[])=true∧cond_ro s d (List.replicate d.size 0) 0 0 false (ByteArray.mk #[])=true∧(phi_ro s d (List.replicate d.size 0) 0 0 false (ByteArray.mk #[])).1.length=d.size∧(phi_ro s d (List.replicate d.size 0) 0 0 false (ByteArray.mk #[])).1.take d.size=(phi_ro s d (List.replicate d.size 0) 0 0 false (ByteArray.mk #[])).1∧∀ ng,sg0.val ng (ofBytes (phi_ro s d (List.replicate d.size 0) 0 0 false (ByteArray.mk #[])).1)=sg0.sg ng (vT d d.size):=by
  intro d h1 h2
  have hq:pre_rc s 0 d 0 false (ByteArray.mk #[]):= ⟨rfl,by omega,h2⟩
  have hq2:pre_ro s d (List.replicate d.size 0) 0 0 false (ByteArray.mk #[]):= ⟨rfl,rfl,rfl,by omega,h2⟩
  obtain ⟨g1,g2,g3⟩:=(phi_ro_spec _ _ _ _ _ _ _ hq2).2
  refine ⟨cond_rc_eq _ _ _ _ _ _ hq,cond_ro_eq _ _ _ _ _ _ _ hq2,g3,List.take_of_length_le (by rw [g3];exact Nat.le_refl _),fun ng=> ?_⟩
  rw [← sg_val]
  have e:sg0.vs (ofBytes (phi_ro s d (List.replicate d.size 0) 0 0 false (ByteArray.mk #[])).1)=vT d d.size:=by
   show vS _=_
   rw [vS_okb g1,g2]
  rw [e]
 simp only [strEq_sz,Int.toNat_natCast,List.length_replicate,Nat.mul_one,Nat.zero_add,List.drop_zero,decide_true,Bool.true_and]
 by_cases hs:sgnT s=true
 ·have hd:dgsT s=strSub s 1 s.size:=by unfold dgsT;rw [hs];rfl
  have hs':=hs
  unfold sgnT at hs'
  rw [Bool.and_eq_true,decide_eq_true_eq] at hs'
  have hs2:=hs'.2
  rw [sub_head hs'.1] at hs2
  have hsz:(strSub s 1 s.size).size=s.size - 1:=size_sub1 s
  rw [hs2,dT (show (0:Int) < (s.size:Int) by omega),dT (show (1:Int)≤(s.size:Int) by omega)]
  by_cases h1:s.size - 1=0
  ·have hb:¬ goodT s:=fun g=>by have:=g.1;rw [hd,hsz] at this;omega
   rw [dT (show (strSub s 1 s.size).size=0 by omega),pkT_bad h0 hb,pvT_bad hb,int_zero];rfl
  ·rw [dF (show ¬ (strSub s 1 s.size).size=0 by omega),dT (show (0:Int) < ((strSub s 1 s.size).size:Int) by omega),dT (show (1:Int) < (s.size:Int) by omega)]
   by_cases h2:byteAt (strSub s 1 s.size) 0=48
   ·have hb:¬ goodT s:=fun g=>g.2.2 ⟨by rw [hd];exact h2, .inr hs⟩
    rw [dT h2,pkT_bad h0 hb,pvT_bad hb,int_zero];rfl
   ·have g:goodT s:= ⟨by rw [hd,hsz];omega,ho,fun k=>h2 (by rw [← hd];exact k.1)⟩
    rw [hd] at ho
    obtain ⟨c1,c2,c3,c4,c5⟩:=loopv (strSub s 1 s.size) (by omega) ho
    rw [dF h2,c1,c2,c3,c4,dT (show ((strSub s 1 s.size).size:Int) < (s.size:Int) by omega),c5,dT (Nat.le_refl (strSub s 1 s.size).size),dT (Int.le_refl ((strSub s 1 s.size).size:Int)),dT (show (1:Int)*((strSub s 1 s.size).size:Int)≤281474976710656 by omega),dT (show ((strSub s 1 s.size).size:Int)≤9223372036854775807 by omega),pkT_good h0 g,pvT_good h0 g,hs,hd]
    rfl
 ·have hd:dgsT s=s:=by unfold dgsT;rw [Bool.not_eq_true] at hs;rw [hs];rfl
  rw [hd] at ho
  obtain ⟨c1,c2,c3,c4,c5⟩:=loopv s (by omega) ho
  rw [c1,c2,c3,c4,dF (show ¬ (s.size:Int) < (s.size:Int) by omega),c5,dT (Nat.le_refl s.size),dT (Int.le_refl (s.size:Int)),dT (show (1:Int)*(s.size:Int)≤281474976710656 by omega),dT (show (s.size:Int)≤9223372036854775807 by omega)]
  have hs2:0 < s.size→decide (byteAt s 0=45)=false:=fun h=>by
   unfold sgnT at hs
   rw [dT h,Bool.true_and,sub_head h,Bool.not_eq_true] at hs
   exact hs
  by_cases h1:s.size=0
  ·have hb:¬ goodT s:=fun g=>by have:=g.1;rw [hd] at this;omega
   rw [dF (show ¬ (0:Int) < (s.size:Int) by omega),dT h1,pkT_bad h0 hb,pvT_bad hb,int_zero];rfl
  ·rw [dT (show (0:Int) < (s.size:Int) by omega),hs2 (by omega),dF h1]
   by_cases h3:(1:Int) < (s.size:Int)
   ·by_cases h2:byteAt s 0=48
    ·have hb:¬ goodT s:=fun g=>g.2.2 ⟨by rw [hd];exact h2, .inl (by rw [hd];omega)⟩
     rw [dT h2,dT h3,pkT_bad h0 hb,pvT_bad hb,int_zero];rfl
    ·have g:goodT s:= ⟨by rw [hd];omega,by rw [hd];exact ho,fun k=>h2 (by rw [← hd];exact k.1)⟩
     rw [dF h2,pkT_good h0 g,pvT_good h0 g,Bool.eq_false_iff.2 hs,hd];rfl
   ·have g:goodT s:= ⟨by rw [hd];omega,by rw [hd];exact ho,fun k=>by
     rcases k.2 with k | k
     ·rw [hd] at k;omega
     ·exact hs k⟩
    rw [dF h3,pkT_good h0 g,pvT_good h0 g,Bool.eq_false_iff.2 hs,hd]
    cases decide (byteAt s 0=48) <;> rfl
theorem rparse_bad (s:ByteArray) (h0:¬ 65536 < s.size) (hb:∃ l,l < (dgsT s).size∧¬ okd (dgsT s) l):callA Tryz.prog ⟨CRPa sg0,fun _=>false,LL_rx cond_rx phi_rx noL⟩ 10 10 18 [.val (.string s)]=some (.tup [sg0.int (pvT s), .val (.int .i64 (pkT s))]):=by
 rw [rparse_b]
 have hg:¬ goodT s:=fun g=>by
  obtain ⟨l,h1,h2⟩:=hb
  exact h2 (g.2.1 l h1)
 rw [dF (show ¬ (65536:Int) < (s.size:Int) by omega),pkT_bad h0 hg,pvT_bad hg,int_zero]
 have loopv:∀ d:ByteArray,d.size≤65536→(∃ l,l < d.size∧¬ okd d l)→cond_rx s 0 d 0 false (ByteArray.mk #[])=true∧(phi_rx s 0 d 0 false (ByteArray.mk #[])).1=3∧(phi_rx s 0 d 0 false (ByteArray.mk #[])).2.2.1=false∧(phi_rx s 0 d 0 false (ByteArray.mk #[])).2.2.2=ByteArray.mk #[]:=by
  intro d h1 h2
  have hq:pre_rx s 0 d 0 false (ByteArray.mk #[]):= ⟨rfl,by omega,first_bad _ h2⟩
  exact ⟨cond_rx_eq _ _ _ _ _ _ hq,(phi_rx_spec _ _ _ _ _ _ hq).2⟩
 simp only [strEq_sz]
 by_cases hs:sgnT s=true
 ·have hd:dgsT s=strSub s 1 s.size:=by unfold dgsT;rw [hs];rfl
  have hs':=hs
  unfold sgnT at hs'
  rw [Bool.and_eq_true,decide_eq_true_eq] at hs'
  have hs2:=hs'.2
  rw [sub_head hs'.1] at hs2
  have hsz:(strSub s 1 s.size).size=s.size - 1:=size_sub1 s
  rw [hd] at hb
  obtain ⟨c1,c2,c3,c4⟩:=loopv (strSub s 1 s.size) (by omega) hb
  have h1:¬ s.size - 1=0:=by obtain ⟨l,h,_⟩:=hb;omega
  rw [hs2,dT (show (0:Int) < (s.size:Int) by omega),dT (show (1:Int)≤(s.size:Int) by omega),dF (show ¬ (strSub s 1 s.size).size=0 by omega),dT (show (0:Int) < ((strSub s 1 s.size).size:Int) by omega),c1,c2,c3,c4]
  cases decide (byteAt (strSub s 1 s.size) 0=48) <;> cases decide ((1:Int) < (s.size:Int)) <;> rfl
 ·have hd:dgsT s=s:=by unfold dgsT;rw [Bool.not_eq_true] at hs;rw [hs];rfl
  rw [hd] at hb
  obtain ⟨c1,c2,c3,c4⟩:=loopv s (by omega) hb
  have h1:¬ s.size=0:=by obtain ⟨l,h,_⟩:=hb;omega
  have h2:decide (byteAt s 0=45)=false:=by
   unfold sgnT at hs
   rw [dT (show 0 < s.size by omega),Bool.true_and,sub_head (by omega),Bool.not_eq_true] at hs
   exact hs
  rw [h2,dT (show (0:Int) < (s.size:Int) by omega),dF h1,c1,c2,c3,c4]
  cases decide (byteAt s 0=48) <;> cases decide ((1:Int) < (s.size:Int)) <;> rfl
theorem eRParse:Entry Tryz.prog 18 (tPrs sg0 pvT pkT):=by
 intro args r h
 unfold tPrs at h
 split at h
 ·rename_i s
  simp only [Option.some.injEq,Prod.mk.injEq,true_and] at h
  subst h
  intro B w xs hB hx
  by_cases hc:65536 < s.size∨∀ l,l < (dgsT s).size→okd (dgsT s) l
  ·exact callA_sound CRPa_ok (LL_rc_ok (LL_ro_ok LOk.none)).ok mixed (by kernel_rfl) (rparse_ok s hc) B w xs hB hx
  ·have h0:¬ 65536 < s.size:=fun h=>hc (.inl h)
   have hb:∃ l,l < (dgsT s).size∧¬ okd (dgsT s) l:=Classical.byContradiction fun hn=>hc (.inr fun l hl=>Classical.byContradiction fun hk=>hn ⟨l,hl,hk⟩)
   exact callA_sound CRPa_ok (LL_rx_ok LOk.none).ok mixed (by kernel_rfl) (rparse_bad s h0 hb) B w xs hB hx
 ·cases h
end
end Go.Proofs.YtibaendebbicjaaGreat.L
namespace Go.Proofs.YtibaendebbicjaaGreat.L
open Go Go.V Go.RowKit Go.Proofs.YtibaendebbicjaaGreat.Sp Go.Proofs.YtibaendebbicjaaGreat.F
open Go.Proofs (Tryz.prog)
noncomputable section
theorem byteAt_list (s:ByteArray) (i:Nat):byteAt s i=(bytesI s).getD i 0:=by
 unfold byteAt bytesI
 rw [List.getD_eq_getElem?_getD,List.getD_eq_getElem?_getD,List.getElem?_map]
 cases s.data.toList[i]? <;> rfl
theorem bytes_of {l:List Int} (h:okb l):bytesI (ofBytes l)=l:=by
 unfold bytesI ofBytes
 show (l.map fun z=>UInt8.ofNat z.toNat).map (fun b=>(b.toNat:Int))=l
 rw [List.map_map]
 induction l with
 | nil=>rfl
 | cons x l ih=>
  obtain ⟨c,hc,rfl⟩:=h x List.mem_cons_self
  rw [List.map_cons,ih (fun z hz=>h z (List.mem_cons_of_mem _ hz))]
  refine congrArg (· :: l) ?_
  show (((UInt8.ofNat ((c:Int)).toNat).toNat:Nat):Int)=(c:Int)
  rw [Int.toNat_natCast,UInt8.toNat_ofNat',Nat.mod_eq_of_lt (by omega)]
theorem bytes_sub1 (s:ByteArray):bytesI (strSub s 1 s.size)=(bytesI s).drop 1:=by
 unfold bytesI
 show ((s.data.toList.drop 1).take (s.size - 1)).map _=_
 have hl:(s.data.toList.drop 1).length=s.size - 1:=by rw [List.length_drop,Array.length_toList];rfl
 rw [List.take_of_length_le (by rw [hl];exact Nat.le_refl _),List.map_drop]
theorem getD_rev {l:List Int} {i:Nat} (h:i < l.length):l.reverse.getD i 0=l.getD (l.length - 1 - i) 0:=by
 rw [List.getD_eq_getElem?_getD,List.getD_eq_getElem?_getD,List.getElem?_reverse h]
def rdg (n:Nat):List Int:=(dp (dl n) n).reverse
theorem rd_len (n:Nat):(rdg n).length=dl n:=by unfold rdg;rw [List.length_reverse,dp_len]
theorem rd_ok (n:Nat):okb (rdg n):=dp_u8 _ _
theorem rd_get {n i:Nat} (h:i < dl n):(rdg n).getD i 0=((n / 10 ^ (dl n - 1 - i) % 10+48:Nat):Int):=by
 unfold rdg
 rw [getD_rev (by rw [dp_len];exact h),dp_len,dp_get _ _ _ (by omega)]
theorem rd_head {n:Nat} (h:n≠0):(rdg n).getD 0 0≠48∧48≤(rdg n).getD 0 0:=by
 have hp:=dl_pos h
 rw [rd_get hp]
 have ht:=dp_top h
 rw [dp_get _ _ _ (by omega)] at ht
 exact ⟨ht,by omega⟩
theorem rd_digs {n:Nat} {d:ByteArray} (hd:bytesI d=rdg n):d.size=dl n∧(∀ i,i < dl n→okd d i)∧∀ i,i≤dl n→vT d i=n / 10 ^ (dl n - i):=by
 have hsz:d.size=dl n:=by rw [← bytesI_len,hd,rd_len]
 have hb:∀ i,i < dl n→byteAt d i=((n / 10 ^ (dl n - 1 - i) % 10+48:Nat):Int):=fun i hi=>by rw [byteAt_list,hd,rd_get hi]
 refine ⟨hsz,fun i hi=> ?_,fun i=> ?_⟩
 ·unfold okd;rw [hb i hi];omega
 ·induction i with
  | zero=>
   intro _
   rw [Nat.sub_zero,Nat.div_eq_of_lt (dl_lt n)];rfl
  | succ i ih=>
   intro hi
   show vT d i*10+dig d i=_
   have hdg:dig d i=n / 10 ^ (dl n - 1 - i) % 10:=by unfold dig;rw [hb i (by omega)];omega
   have e:n / 10 ^ (dl n - i)=n / 10 ^ (dl n - 1 - i) / 10:=by rw [Nat.div_div_eq_div_mul,← Nat.pow_succ,show (dl n - 1 - i).succ=dl n - i by omega]
   rw [ih (by omega),hdg,e,show dl n - (i+1)=dl n - 1 - i by omega]
   omega
theorem txt_ne {z:Int} (h:z≠0):txt z=ofBytes ((if z < 0 then [45] else []) ++ rdg z.natAbs):=by unfold txt rdg;rw [if_neg h]
theorem pre_ok (z:Int) (n:Nat):okb ((if z < 0 then [45] else []) ++ rdg n):=by
 intro x hx
 rcases List.mem_append.1 hx with hx | hx
 ·split at hx
  ·rw [List.mem_singleton] at hx;exact ⟨45,by decide,hx⟩
  ·cases hx
 ·exact rd_ok n x hx
theorem sgn_at {s:ByteArray} :sgnT s=(decide (0 < s.size)&&decide (byteAt s 0=45)):=by
 unfold sgnT
 by_cases h:0 < s.size
 ·rw [dT h,sub_head h]
 ·rw [dF h];rfl
theorem txt_parts {z:Int} (h:z≠0):sgnT (txt z)=decide (z < 0)∧bytesI (dgsT (txt z))=rdg z.natAbs∧(txt z).size=dl z.natAbs+(if z < 0 then 1 else 0):=by
 have hn:z.natAbs≠0:=by omega
 have hp:=dl_pos hn
 obtain ⟨h1,h2⟩:=rd_head hn
 have hb:bytesI (txt z)=(if z < 0 then [45] else []) ++ rdg z.natAbs:=by rw [txt_ne h,bytes_of (pre_ok _ _)]
 have hsz:(txt z).size=dl z.natAbs+(if z < 0 then 1 else 0):=by
  rw [← bytesI_len,hb,List.length_append,rd_len]
  split <;> simp only [List.length_cons,List.length_nil] <;> omega
 have hs:sgnT (txt z)=decide (z < 0):=by
  rw [sgn_at,byteAt_list,hb,dT (show 0 < (txt z).size by rw [hsz];omega),Bool.true_and]
  by_cases hz:z < 0
  ·rw [if_pos hz,dT hz];rfl
  ·rw [if_neg hz,dF hz,List.nil_append,dF (by omega)]
 refine ⟨hs, ?_,hsz⟩
 unfold dgsT
 rw [hs]
 by_cases hz:z < 0
 ·rw [dT hz,cond_true,bytes_sub1,hb,if_pos hz];rfl
 ·rw [dF hz,cond_false,hb,if_neg hz];rfl
theorem zero_good:goodT ⟨#[48]⟩∧pvT ⟨#[48]⟩=0:=by
 have hs:sgnT ⟨#[48]⟩=false:=rfl
 have hd:dgsT ⟨#[48]⟩= ⟨#[48]⟩:=rfl
 have h1:okd ⟨#[48]⟩ 0:=by unfold okd;decide
 have g:goodT ⟨#[48]⟩:=by
  unfold goodT
  rw [hd,hs]
  refine ⟨by decide,fun l hl=> ?_,fun k=> ?_⟩
  ·have:l=0:=by
    have:(ByteArray.mk #[48]).size=1:=rfl
    omega
   rw [this];exact h1
  ·rcases k.2 with k | k
   ·exact absurd k (by decide)
   ·cases k
 refine ⟨g, ?_⟩
 rw [pvT_good (by decide) g,hs,hd]
 rfl
theorem read_txt {z:Int} (h:dl z.natAbs≤60000):goodT (txt z)∧pvT (txt z)=z∧pkT (txt z)=0∧(txt z).size≤60001:=by
 by_cases h0:z=0
 ·have e:txt z= ⟨#[48]⟩:=by unfold txt;rw [if_pos h0]
  rw [e,h0]
  exact ⟨zero_good.1,zero_good.2,pkT_good (by decide) zero_good.1,by decide⟩
 ·obtain ⟨h1,h2,h3⟩:=txt_parts h0
  have hn:z.natAbs≠0:=by omega
  have hp:=dl_pos hn
  obtain ⟨d1,d2,d3⟩:=rd_digs h2
  obtain ⟨q1,_⟩:=rd_head hn
  have hsz:(txt z).size≤60001:=by rw [h3];split <;> omega
  have g:goodT (txt z):=by
   refine ⟨by omega,by rw [d1];exact d2,fun k=>q1 ?_⟩
   rw [← h2,← byteAt_list];exact k.1
  have hv:vT (dgsT (txt z)) (dgsT (txt z)).size=z.natAbs:=by rw [d1,d3 _ (Nat.le_refl _),Nat.sub_self,Nat.pow_zero,Nat.div_one]
  refine ⟨g, ?_,pkT_good (by omega) g,hsz⟩
  rw [pvT_good (by omega) g,hv,h1]
  show (if decide (z < 0)=true then -((z.natAbs:Nat):Int) else ((z.natAbs:Nat):Int))=z
  by_cases hz:z < 0
  ·rw [if_pos (decide_eq_true hz)];omega
  ·rw [if_neg (by rw [decide_eq_true_eq];exact hz)];omega
end
end Go.Proofs.YtibaendebbicjaaGreat.L
