import Derived.Test.YtamcpiicmfielaaGreatZL
set_option linter.unusedVariables false
set_option linter.unusedSimpArgs false
namespace Go.Proofs.YtamcpiicmfielaaGreat.L
open Go Go.V Go.RowKit Go.Proofs.YtamcpiicmfielaaGreat.Sp Go.Proofs.YtamcpiicmfielaaGreat.F Go.Proofs.YtamcpiicmfielaaGreatW.PrintWords
open Go.Proofs (Tryz.prog)
noncomputable section
def tLead (S:Sg) (args:List AV):Option (Bool×AV):=match args with | [.val (.int .u32 x)]=>some (inU x, .val (.int .i64 (32 - (S.bl x.toNat:Int)))) | _=>none
theorem eLead:Entry Tryz.prog 170 (tLead sg0):=by
 refine entry_of (E:= ⟨CLn sg0,Kall,noL⟩) (u:=10) (d:=10) CLn_ok loops_none mixed (by kernel_rfl) (fun args r h=> ?_)
 unfold tLead at h
 split at h
 ·rename_i x
  simp only [Option.some.injEq,Prod.mk.injEq] at h
  obtain ⟨h1,rfl⟩:=h
  rw [lead_call,h1]
  obtain ⟨n,hn,rfl⟩:=inU_out h1
  have hb:=bl_le n 32 hn
  rw [Int.toNat_natCast,i64T (show -9223372036854775808≤(32:Int) - (sg0.bl n:Int)∧(32:Int) - (sg0.bl n:Int)≤9223372036854775807 by omega)]
  rfl
 ·cases h
def tDiv32 (args:List AV):Option (Bool×AV):=match args with
 | [.val (.int .u32 x), .val (.int .u32 y), .val (.int .u32 z)]=>some (inU x&&inU y&&inU z&&decide (x < z), .tup [.val (.int .u32 ((x*4294967296+y) / z)), .val (.int .u32 ((x*4294967296+y) % z))])
 | _=>none
theorem join64 (h l:Nat) (hh:h < 4294967296) (hl:l < 4294967296):bitI .or .u64 (IntKind.u64.wrap ((h:Int)*4294967296)) (l:Int)=((h*4294967296+l:Nat):Int):=by
 have e:=or64 h l hh hl
 rw [u64n (a:=l) (by omega)] at e
 exact e
theorem eDiv32:Entry Tryz.prog 174 tDiv32:=by
 refine entry_of (E:=E000) (u:=10) (d:=10) (meets_none _) loops_none mixed (by kernel_rfl) (fun args r h=> ?_)
 unfold tDiv32 at h
 split at h
 ·simp only [Option.some.injEq,Prod.mk.injEq,Bool.and_eq_true,decide_eq_true_eq] at h
  obtain ⟨⟨⟨⟨h1,h2⟩,h3⟩,h4⟩,rfl⟩:=h
  obtain ⟨x,hx,rfl⟩:=inU_out h1
  obtain ⟨y,hy,rfl⟩:=inU_out h2
  obtain ⟨z,hz,rfl⟩:=inU_out h3
  have hq:(x*4294967296+y) / z < 4294967296:=by
   rw [Nat.div_lt_iff_lt_mul (by omega)]
   have:(x+1)*4294967296≤z*4294967296:=Nat.mul_le_mul_right _ (by omega)
   omega
  have hr:(x*4294967296+y) % z < z:=Nat.mod_lt _ (by omega)
  rw [div32_call,dF (show ¬ (z:Int)=0 by omega),dF (show ¬ (z:Int)≤x by omega),u64T (show 0≤(x:Int)∧(x:Int)≤18446744073709551615 by omega),u64T (show 0≤(y:Int)∧(y:Int)≤18446744073709551615 by omega),u64T (show 0≤(z:Int)∧(z:Int)≤18446744073709551615 by omega),join64 x y hx hy]
  rw [show Int.tdiv ((x*4294967296+y:Nat):Int) (z:Int)=(((x*4294967296+y) / z:Nat):Int) from rfl,show Int.tmod ((x*4294967296+y:Nat):Int) (z:Int)=(((x*4294967296+y) % z:Nat):Int) from rfl,u64n (by omega),u32w,u32w,Nat.mod_eq_of_lt hq,Nat.mod_eq_of_lt (show (x*4294967296+y) % z < 4294967296 by omega)]
  rfl
 ·cases h
def tAdd32 (args:List AV):Option (Bool×AV):=match args with
 | [.val (.int .u32 x), .val (.int .u32 y), .val (.int .u32 z)]=>some (inU x&&inU y&&inU z&&decide (z≤1), .tup [.val (.int .u32 ((x+y+z) % 4294967296)), .val (.int .u32 ((x+y+z) / 4294967296))])
 | _=>none
theorem eAdd32:Entry Tryz.prog 175 tAdd32:=by
 refine entry_of (E:=E000) (u:=10) (d:=10) (meets_none _) loops_none mixed (by kernel_rfl) (fun args r h=> ?_)
 unfold tAdd32 at h
 split at h
 ·simp only [Option.some.injEq,Prod.mk.injEq,Bool.and_eq_true,decide_eq_true_eq] at h
  obtain ⟨⟨⟨⟨h1,h2⟩,h3⟩,h4⟩,rfl⟩:=h
  obtain ⟨x,hx,rfl⟩:=inU_out h1
  obtain ⟨y,hy,rfl⟩:=inU_out h2
  obtain ⟨z,hz,rfl⟩:=inU_out h3
  rw [add32_call,u64T (show 0≤(x:Int)∧(x:Int)≤18446744073709551615 by omega),u64T (show 0≤(y:Int)∧(y:Int)≤18446744073709551615 by omega),u64T (show 0≤(z:Int)∧(z:Int)≤18446744073709551615 by omega),← Int.natCast_add,u64n (show x+y < 18446744073709551616 by omega),← Int.natCast_add,u64n (show x+y+z < 18446744073709551616 by omega),u32w,fdiv32,u32w,Nat.mod_eq_of_lt (show (x+y+z) / 4294967296 < 4294967296 by omega)]
  rfl
 ·cases h
def ED32:Env:= ⟨addC 174 tDiv32 noC,Kall,noL⟩
theorem ED32_ok:Meets Tryz.prog ED32.C:=(meets_none _).add eDiv32
abbrev p_short:List Bool:= [false,true,false,true,true,true]
def sh_short (xs:List Int) (y:Int) (zs:List Int) (r:Int) (i:Int):List AV:=slots 35 [(0, .lst false 129 xs.length (lim xs)),(1, .val (.int .u32 y)),(6, .sl false 129 0 0 zs.length),(7, .val (.int .u32 r)),(8, .val (.int .i64 i))]
def hp_short (xs:List Int) (y:Int) (zs:List Int) (r:Int) (i:Int):Hp:= [.row (.ints .u32 zs) 129 .live]
theorem body_short:subC Tryz.prog 169 p_short=some (.loop (lb 169 p_short)):=by kernel_rfl
theorem code_short:subC Tryz.prog 169 (false :: p_short)=some (lb 169 p_short):=by kernel_rfl
theorem round_short (xs:List Int) (y:Int) (zs:List Int) (r:Int) (i:Int):roundA Tryz.prog ED32 169 [0,1,6,7,8] (lb 169 p_short) (false :: p_short) (sh_short xs y zs r i) (hp_short xs y zs r i)=
  (bif decide ((0:Int)≤i) then (bif decide ((0:Int)≤i)&&decide (i < (↑xs.length:Int)) then (bif inU r&&inU (xs.getD i.toNat (0:Int))&&inU y&&decide (r < y) then (bif decide ((0:Int)≤i)&&decide (i < (↑zs.length:Int)) then (bif decide ((0:Nat)+i.toNat*(1:Nat) < zs.length) then (bif inR IntKind.i64 (i - (1:Int)) then some (.normal,slots 35 [(0,(.lst false 129 xs.length (lim xs))),(1,(.val (.int .u32 y))),(6,(.sl false 129 0 0 zs.length)),(7,(.val (.int .u32 ((r*(4294967296:Int)+xs.getD i.toNat (0:Int)) % y)))),(8,(.val (.int .i64 (i - (1:Int)))))], [(.row (.ints .u32 (zs.set ((0:Nat)+i.toNat*(1:Nat)) ((r*(4294967296:Int)+xs.getD i.toNat (0:Int)) / y))) 129 .live)]) else none) else none) else none) else none) else none) else some ((.exit 0),slots 35 [(0,(.lst false 129 xs.length (lim xs))),(1,(.val (.int .u32 y))),(6,(.sl false 129 0 0 zs.length)),(7,(.val (.int .u32 r))),(8,(.val (.int .i64 i)))], [(.row (.ints .u32 zs) 129 .live)])):=by kernel_rfl
theorem step_short {xs:List Int} {y:Int} {zs:List Int} {r:Int} {i:Int} {e:Ex} {T:List AV} {H:Hp} (h:roundA Tryz.prog ED32 169 [0,1,6,7,8] (lb 169 p_short) (false :: p_short) (sh_short xs y zs r i) (hp_short xs y zs r i)=some (e,T,H)):V.Ends Tryz.prog false 0 0 (lb 169 p_short) (sh_short xs y zs r i) (hp_short xs y zs r i) e T H:=
 round_ends ED32_ok loops_none mixed code_short h
def pre_short (xs:List Int) (y:Int) (zs:List Int) (r i:Int):Prop:=okL xs∧okL zs∧zs.length=xs.length∧xs.length≤17592186044416∧inU y=true∧0 < y∧r=0∧i=(xs.length:Int) - 1
def post_short (xs:List Int) (y:Int) (zs:List Int) (r i:Int) (q:List Int×Int×Int):Prop:=okL q.1∧q.1.length=xs.length∧vL q.1=vL xs / y.toNat∧q.2.1=((vL xs % y.toNat:Nat):Int)
theorem short_go (xs:List Int) (y:Nat) (hl:okL xs) (hb:xs.length≤17592186044416) (hy0:0 < y) (hy:y < 4294967296) (d:Nat):∀ (r:Nat) (out:List Int),d≤xs.length→okL out→out.length=xs.length→r < y→Aside0 (vL (out.drop d)*y+r=vL (xs.drop d))→
  ∃ q:List Int×Int×Int,LoopTo Tryz.prog (lb 169 p_short) (sh_short xs y out r ((d:Int) - 1)) (hp_short xs y out r ((d:Int) - 1)) (.exit 0) (sh_short xs y q.1 q.2.1 q.2.2) (hp_short xs y q.1 q.2.1 q.2.2)∧okL q.1∧q.1.length=xs.length∧vL q.1=vL xs / y∧q.2.1=((vL xs % y:Nat):Int):=by
 induction d with
 | zero=>
  intro r out hd hok hlen hr hv
  refine ⟨(out,(r:Int),((0:Nat):Int) - 1), .last (step_short ?_) (by intro h;cases h),hok,hlen, ?_, ?_⟩
  ·rw [round_short];rfl
  ·have hv:=hv.out
   rw [List.drop_zero,List.drop_zero] at hv
   show vL out=_
   rw [← hv,Nat.mul_comm,Nat.mul_add_div hy0,Nat.div_eq_of_lt hr];simp
  ·have hv:=hv.out
   rw [List.drop_zero,List.drop_zero] at hv
   show (r:Int)=_
   rw [← hv,Nat.mul_comm,Nat.mul_add_mod,Nat.mod_eq_of_lt hr]
 | succ d ih=>
  intro r out hd hok hlen hr HV
  have hdl:d < xs.length:=by omega
  have hdo:d < out.length:=by omega
  obtain ⟨a,ha,hea,hra⟩:=getD_limb hl d hdl
  have hq:(r*4294967296+a) / y < 4294967296:=by
   rw [Nat.div_lt_iff_lt_mul (by omega)]
   have:(r+1)*4294967296≤y*4294967296:=Nat.mul_le_mul_right _ (by omega)
   omega
  have hm:(r*4294967296+a) % y < y:=Nat.mod_lt _ hy0
  obtain ⟨q,h1,h2⟩:=ih ((r*4294967296+a) % y) (out.set d (((r*4294967296+a) / y:Nat):Int)) (by omega) (okL_set hok _ _ (Int.natCast_nonneg _) (Int.ofNat_lt.2 hq)) (by rw [List.length_set];exact hlen) hm (by
   constructor
   rw [List.drop_eq_getElem_cons (l:=out.set d _) (by simpa using hdo),List.getElem_set_self,List.drop_set_of_lt (by omega),List.drop_eq_getElem_cons hdl,hea,vL_cons,vL_cons,Int.toNat_natCast,Int.toNat_natCast,← HV.out]
   have h1:=Nat.div_add_mod (r*4294967296+a) y
   generalize (r*4294967296+a) / y=q at*
   generalize (r*4294967296+a) % y=m at*
   grind)
  refine ⟨q, .more (step_short ?_) h1,h2⟩
  clear h1 h2 ih HV
  have hr2:=round_short xs y out r (d:Int)
  rw [Int.toNat_natCast,hra,inU_in ha,inU_in hy,inU_in (show r < 4294967296 by omega),Nat.zero_add,Nat.mul_one,dT (show (0:Int)≤(d:Int) by omega),dT (show (d:Int) < (xs.length:Int) by omega),dT (show (d:Int) < (out.length:Int) by omega),dT hdo,dT (show (r:Int) < y by omega),i64T (show -9223372036854775808≤(d:Int) - 1∧(d:Int) - 1≤9223372036854775807 by omega)] at hr2
  rw [show ((d+1:Nat):Int) - 1=(d:Int) by omega,hr2]
  unfold sh_short hp_short
  rw [List.length_set]
  rfl
theorem loop_short (xs:List Int) (y:Int) (zs:List Int) (r i:Int) (h:pre_short xs y zs r i):∃ q:List Int×Int×Int,LoopTo Tryz.prog (lb 169 p_short) (sh_short xs y zs r i) (hp_short xs y zs r i) (.exit 0) (sh_short xs y q.1 q.2.1 q.2.2) (hp_short xs y q.1 q.2.1 q.2.2)∧post_short xs y zs r i q:=by
 obtain ⟨h1,h2,h3,h4,h5,h6,rfl,rfl⟩:=h
 obtain ⟨y,hy,rfl⟩:=inU_out h5
 unfold post_short
 rw [Int.toNat_natCast]
 exact short_go xs y h1 h4 (by omega) hy xs.length 0 zs (Nat.le_refl _) h2 h3 (by omega) ⟨by rw [List.drop_of_length_le (by omega),List.drop_of_length_le (Nat.le_refl _)];simp [vL_nil]⟩
def told_short (κ:List Int→Int→List Int→Int→Int→Bool) (φ:List Int→Int→List Int→Int→Int→List Int×Int×Int) (T:List AV) (H:Hp):Option (Bool×Ex×List AV×Hp):=
 match lget T 0,lget T 1,lget T 6,lget T 7,lget T 8,H with
 | .lst false 129 m_xs f_xs, .val (.int .u32 y), .sl false 129 0 0 m_zs, .val (.int .u32 r), .val (.int .i64 i), [.row (.ints .u32 zs) 129 .live]=>bif T.length==35 then some (okB m_xs f_xs&&decide (m_zs=zs.length)&&κ (rowOf m_xs f_xs) y zs r i, .exit 0,sh_short (rowOf m_xs f_xs) y ((φ (rowOf m_xs f_xs) y zs r i).1) ((φ (rowOf m_xs f_xs) y zs r i).2.1) ((φ (rowOf m_xs f_xs) y zs r i).2.2),hp_short (rowOf m_xs f_xs) y ((φ (rowOf m_xs f_xs) y zs r i).1) ((φ (rowOf m_xs f_xs) y zs r i).2.1) ((φ (rowOf m_xs f_xs) y zs r i).2.2)) else none
 | _,_,_,_,_,_=>none
abbrev KT_short:Type:=List Int→Int→List Int→Int→Int→Bool
abbrev FT_short:Type:=List Int→Int→List Int→Int→Int→List Int×Int×Int
def LL_short (κ:KT_short) (φ:FT_short) (L:LTab):LTab:=addLn 0 169 p_short [0,1,6,7,8] (told_short κ φ) L
def phi_short (xs:List Int) (y:Int) (zs:List Int) (r:Int) (i:Int):List Int×Int×Int:=Classical.epsilon fun ρ=>LoopTo Tryz.prog (lb 169 p_short) (sh_short xs y zs r i) (hp_short xs y zs r i) (.exit 0) (sh_short xs y (ρ.1) (ρ.2.1) (ρ.2.2)) (hp_short xs y (ρ.1) (ρ.2.1) (ρ.2.2))∧post_short xs y zs r i ρ
theorem phi_short_spec (xs:List Int) (y:Int) (zs:List Int) (r:Int) (i:Int) (h:pre_short xs y zs r i):LoopTo Tryz.prog (lb 169 p_short) (sh_short xs y zs r i) (hp_short xs y zs r i) (.exit 0) (sh_short xs y ((phi_short xs y zs r i).1) ((phi_short xs y zs r i).2.1) ((phi_short xs y zs r i).2.2)) (hp_short xs y ((phi_short xs y zs r i).1) ((phi_short xs y zs r i).2.1) ((phi_short xs y zs r i).2.2))∧post_short xs y zs r i (phi_short xs y zs r i):=Classical.epsilon_spec (loop_short xs y zs r i h)
def cond_short (xs:List Int) (y:Int) (zs:List Int) (r:Int) (i:Int):Bool:= @decide (pre_short xs y zs r i) (Classical.propDecidable _)
theorem cond_short_eq (xs:List Int) (y:Int) (zs:List Int) (r:Int) (i:Int) (h:pre_short xs y zs r i):cond_short xs y zs r i=true:= @decide_eq_true _ (Classical.propDecidable _) h
theorem told_short_ok (T:List AV) (H:Hp) (e:Ex) (T1:List AV) (H1:Hp) (h:told_short cond_short phi_short T H=some (true,e,T1,H1)):V.Ends Tryz.prog false 0 0 (.loop (lb 169 p_short)) T H e T1 H1:=by
 unfold told_short at h
 split at h
 ·rename_i m_xs f_xs y m_zs r i zs h0 h1 h6 h7 h8
  rw [Bool.cond_eq_ite] at h
  split at h
  ·rename_i hlen
   rw [beq_iff_eq] at hlen
   simp only [Option.some.injEq,Prod.mk.injEq,Bool.and_eq_true,decide_eq_true_eq] at h
   obtain ⟨⟨⟨k1,k2⟩,k3⟩,rfl,rfl,rfl⟩:=h
   have kc:= @of_decide_eq_true _ (Classical.propDecidable _) k3
   refine Ends.pre (phi_short_spec (rowOf m_xs f_xs) y zs r i kc).1.ends (fun α B w D ys hr=>slots_rel hlen (fun p hp y hy=> ?_) hr)
   simp only [List.mem_cons,List.not_mem_nil,or_false] at hp
   rcases hp with rfl | rfl | rfl | rfl | rfl
   ·rw [h0] at hy;rw [rowOf_len];exact row_norm cells129 k1 hy
   ·rw [h1] at hy;exact hy
   ·rw [h6] at hy;rw [← k2];exact hy
   ·rw [h7] at hy;exact hy
   ·rw [h8] at hy;exact hy
  ·cases h
 ·cases h
theorem LL_short_ok {L:LTab} (h:LOk Tryz.prog L):LOk Tryz.prog (LL_short cond_short phi_short L):=h.add2n body_short told_short_ok
def ESh (S:Sg) (κ:KT_short) (φ:FT_short):Env:= ⟨CT S,Kall,LL_short κ φ noL⟩
theorem short_call (S:Sg) (κ:KT_short) (φ:FT_short) (xs:List Int) (y:Int):letI q_2:=(List.replicate (↑xs.length:Int).toNat (0:Int));letI q_1:=(φ (rowOf xs.length (lim xs)) y q_2 (0:Int) ((↑xs.length:Int) - (1:Int)));
  (callA Tryz.prog (ESh S κ φ) 10 10 169 [.lst false 129 xs.length (lim xs), .val (.int .u32 y)]=(bif decide ((↑xs.length:Int)≤(↑xs.length:Int))&&decide ((4:Int)*(↑xs.length:Int)≤(281474976710656:Int))&&decide ((↑xs.length:Int)≤(9223372036854775807:Int)) then (bif inR IntKind.i64 ((↑xs.length:Int) - (1:Int)) then (bif okB xs.length (lim xs)&&decide ((↑xs.length:Int).toNat=q_2.length)&&κ (rowOf xs.length (lim xs)) y q_2 (0:Int) ((↑xs.length:Int) - (1:Int)) then (bif decide ((0:Nat)+q_1.fst.length*(1:Nat)≤q_1.fst.length) then (bif S.okr q_1.fst.length (lim q_1.fst) then some (.tup [(.lst false 129 (S.len (S.num q_1.fst.length (lim q_1.fst))) (S.row (S.num q_1.fst.length (lim q_1.fst)))),(.val (.int .u32 (q_1.snd.fst)))]) else none) else none) else none) else none) else none)):=by kernel_rfl
def tShort (S:Sg) (args:List AV):Option (Bool×AV):=match args with | [.lst _ 129 m f, .val (.int .u32 y)]=>some (S.okr m f&&inU y&&decide (0 < y), .tup [S.lmb (S.num m f / y.toNat), .val (.int .u32 ((S.num m f % y.toNat:Nat):Int))]) | _=>none
theorem eShort:Entry Tryz.prog 169 (tShort sg0):=by
 refine entry_to (E:=ESh sg0 cond_short phi_short) (u:=10) (d:=10) CT_ok (LL_short_ok LOk.none).ok (by kernel_rfl) (fun args r h=> ?_)
 unfold tShort at h
 split at h
 ·rename_i fl m f y
  simp only [Option.some.injEq,Prod.mk.injEq,Bool.and_eq_true,decide_eq_true_eq] at h
  obtain ⟨⟨⟨h1,h2⟩,h3⟩,rfl⟩:=h
  obtain ⟨a1,a2,a3,a4⟩:=okr_out h1
  have hp:pre_short (rowOf m f) y (List.replicate (rowOf m f).length 0) 0 ((rowOf m f).length - 1):= ⟨a2,okL_replicate _,by simp,a3,h2,h3,rfl,rfl⟩
  obtain ⟨_,c1,c2,c3,c4⟩:=phi_short_spec _ _ _ _ _ hp
  have hcall:=short_call sg0 cond_short phi_short (rowOf m f) y
  simp only [rowOf_lim',Nat.mul_one,Nat.zero_add,Int.toNat_natCast,List.length_replicate,eq_self,decide_true] at hcall
  rw [cond_short_eq _ _ _ _ _ hp] at hcall
  generalize phi_short (rowOf m f) y (List.replicate (rowOf m f).length 0) 0 ((rowOf m f).length - 1)=q at*
  rw [okB_lim a2,dT (show ((rowOf m f).length:Int)≤((rowOf m f).length:Int) by omega),dT (show (4:Int)*((rowOf m f).length:Int)≤281474976710656 by omega),dT (show ((rowOf m f).length:Int)≤9223372036854775807 by omega),i64T (show -9223372036854775808≤((rowOf m f).length:Int) - 1∧((rowOf m f).length:Int) - 1≤9223372036854775807 by omega),dT (show q.1.length≤q.1.length by omega),okr_lim c1 (by omega),num_lim,c3,c4] at hcall
  refine ⟨_,_,hcall,fun B w ys hr=> ?_,fun B w y hr=>by rw [a4];exact hr⟩
  obtain ⟨y,zs,rfl,q1,q2⟩:=hr
  exact ⟨y,_,rfl,norm_row a1 q1,q2⟩
 ·cases h
end
end Go.Proofs.YtamcpiicmfielaaGreat.L
namespace Go.Proofs.YtamcpiicmfielaaGreat.L
open Go Go.V Go.RowKit Go.Proofs.YtamcpiicmfielaaGreat.Sp Go.Proofs.YtamcpiicmfielaaGreat.F Go.Proofs.YtamcpiicmfielaaGreatW.PrintWords
open Go.Proofs (Tryz.prog)
noncomputable section
theorem shl_u64 (a n:Nat) (ha:a < 4294967296) (hn:n < 32):IntKind.u64.wrap ((a:Int)*2 ^ min ((n:Int).toNat) 64)=((a*2 ^ n:Nat):Int):=by
 have h:=(shl64 a n ha hn).1
 unfold shl at h
 rw [u64n (by omega)] at h
 exact h
theorem or_u32 (c a n:Nat) (hc:c < 2 ^ n) (hn:n < 32):bitI .or .u32 (c:Int) (((a*2 ^ n % 4294967296:Nat)):Int)=((c+a*2 ^ n % 4294967296:Nat):Int):=(shift_or c a n hc hn).1
abbrev p_shift0:List Bool:= [false,true,false,true,true]
def sh_shift0 (k:Int) (zs:List Int) (xs:List Int) (n:Int) (i:Int):List AV:=slots 41 [(1, .val (.int .i64 k)),(5, .sl false 129 0 0 zs.length),(13, .lst false 129 xs.length (lim xs)),(14, .val (.int .i64 n)),(15, .val (.int .i64 i))]
def hp_shift0 (k:Int) (zs:List Int) (xs:List Int) (n:Int) (i:Int):Hp:= [.row (.ints .u32 zs) 129 .live]
theorem body_shift0:subC Tryz.prog 171 p_shift0=some (.loop (lb 171 p_shift0)):=by kernel_rfl
theorem code_shift0:subC Tryz.prog 171 (false :: p_shift0)=some (lb 171 p_shift0):=by kernel_rfl
theorem round_shift0 (k:Int) (zs:List Int) (xs:List Int) (n:Int) (i:Int):letI q_1:=(zs.set ((0:Nat)+i.toNat*(1:Nat)) (bitI BinOp.or IntKind.u32 (zs.getD ((0:Nat)+i.toNat*(1:Nat)) (0:Int)) (IntKind.u32.wrap (IntKind.u64.wrap (xs.getD i.toNat (0:Int)*(2:Int) ^ min k.toNat (64:Nat))))));
  (roundA Tryz.prog EL0 171 [1,5,13,14,15] (lb 171 p_shift0) (false :: p_shift0) (sh_shift0 k zs xs n i) (hp_shift0 k zs xs n i)=(bif decide (i < n) then (bif decide ((0:Int)≤i)&&decide (i < (↑xs.length:Int)) then (bif inR IntKind.u64 (xs.getD i.toNat (0:Int)) then (bif decide (k < (0:Int)) then none else (bif decide ((0:Int)≤i)&&decide (i < (↑zs.length:Int)) then (bif decide ((0:Nat)+i.toNat*(1:Nat) < zs.length) then (bif decide ((0:Int)≤i)&&decide (i < (↑zs.length:Int)) then (bif decide ((0:Nat)+i.toNat*(1:Nat) < zs.length) then (bif inR IntKind.i64 (i+(1:Int)) then (bif decide ((0:Int)≤i+(1:Int))&&decide (i+(1:Int) < (↑zs.length:Int)) then (bif decide ((0:Nat)+(i+(1:Int)).toNat*(1:Nat) < q_1.length) then (bif inR IntKind.i64 (i+(1:Int)) then some (.normal,slots 41 [(1,(.val (.int .i64 k))),(5,(.sl false 129 0 0 zs.length)),(13,(.lst false 129 xs.length (lim xs))),(14,(.val (.int .i64 n))),(15,(.val (.int .i64 (i+(1:Int)))))], [(.row (.ints .u32 (q_1.set ((0:Nat)+(i+(1:Int)).toNat*(1:Nat)) (IntKind.u32.wrap ((IntKind.u64.wrap (xs.getD i.toNat (0:Int)*(2:Int) ^ min k.toNat (64:Nat))).fdiv (4294967296:Int))))) 129 .live)]) else none) else none) else none) else none) else none) else none) else none) else none)) else none) else none) else some ((.exit 0),slots 41 [(1,(.val (.int .i64 k))),(5,(.sl false 129 0 0 zs.length)),(13,(.lst false 129 xs.length (lim xs))),(14,(.val (.int .i64 n))),(15,(.val (.int .i64 i)))], [(.row (.ints .u32 zs) 129 .live)]))):=by kernel_rfl
theorem step_shift0 {k:Int} {zs:List Int} {xs:List Int} {n:Int} {i:Int} {e:Ex} {T:List AV} {H:Hp} (h:roundA Tryz.prog EL0 171 [1,5,13,14,15] (lb 171 p_shift0) (false :: p_shift0) (sh_shift0 k zs xs n i) (hp_shift0 k zs xs n i)=some (e,T,H)):V.Ends Tryz.prog false 0 0 (lb 171 p_shift0) (sh_shift0 k zs xs n i) (hp_shift0 k zs xs n i) e T H:=
 round_ends (meets_none _) loops_none mixed code_shift0 h
def pre_shift0 (k:Int) (zs xs:List Int) (n i:Int):Prop:=okL xs∧okL zs∧zs=List.replicate (xs.length+1) 0∧xs.length≤17592186044415∧n=xs.length∧i=0∧∃ a:Nat,k=a∧a < 32
def post_shift0 (k:Int) (zs xs:List Int) (n i:Int) (q:List Int×Int):Prop:=okL q.1∧q.1.length=xs.length+1∧vL q.1=2 ^ k.toNat*vL xs
theorem shift0_go (k:Nat) (xs:List Int) (hl:okL xs) (hb:xs.length≤17592186044415) (hn:k < 32) (d:Nat):∀ (i c:Nat) (out:List Int),i+d=xs.length→okL out→out.length=xs.length+1→(∃ h:i < out.length,out[i]=(c:Int))→c < 2 ^ k→
  Aside0 (vL (out.take i)+4294967296 ^ i*c=2 ^ k*vL (xs.take i))→
  ∃ q:List Int×Int,LoopTo Tryz.prog (lb 171 p_shift0) (sh_shift0 k out xs xs.length i) (hp_shift0 k out xs xs.length i) (.exit 0) (sh_shift0 k q.1 xs xs.length q.2) (hp_shift0 k q.1 xs xs.length q.2)∧okL q.1∧q.1.length=xs.length+1∧vL q.1=2 ^ k*vL xs:=by
 induction d with
 | zero=>
  intro i c out hi hok hlen hcc hc hv
  obtain ⟨hio,hcc⟩:=hcc
  have hi':i=xs.length:=by omega
  refine ⟨(out,(i:Int)), .last (step_shift0 ?_) (by intro h;cases h),hok,hlen, ?_⟩
  ·rw [round_shift0,dF (show ¬ ((i:Int) < xs.length) by omega)]
   rfl
  ·have h1:=vL_take_succ out i hio
   rw [List.take_of_length_le (by omega),hcc,Int.toNat_natCast,hv.out,List.take_of_length_le (by omega)] at h1
   exact h1
 | succ d ih=>
  intro i c out hi hok hlen hcc hc HV
  obtain ⟨hio,hcc⟩:=hcc
  have hil:i < xs.length:=by omega
  have hi1:i+1 < out.length:=by omega
  obtain ⟨a,ha,hea,hra⟩:=getD_limb hl i hil
  have hro:out.getD i 0=(c:Int):=by rw [List.getD_eq_getElem?_getD,List.getElem?_eq_getElem hio,Option.getD_some,hcc]
  have HT:=Aside0.mk (vL_take_succ xs i hil)
  rw [hea,Int.toNat_natCast] at HT
  have hsh:=shl_u64 a k ha hn
  have hsl:=(shl64 a k ha hn).2
  have hor:=or_u32 c a k hc hn
  have hol:=(shift_or c a k hc hn).2
  have hdiv:a*2 ^ k / 4294967296 < 2 ^ k:=by
   rw [Nat.div_lt_iff_lt_mul (by decide),Nat.mul_comm (2 ^ k)];exact hsl
  have h2n:(2:Nat) ^ k≤2 ^ 31:=Nat.pow_le_pow_right (by decide) (by omega)
  have h31:(2:Nat) ^ 31=2147483648:=rfl
  obtain ⟨q,h1,h2⟩:=ih (i+1) (a*2 ^ k / 4294967296) ((out.set i ((c+a*2 ^ k % 4294967296:Nat):Int)).set (i+1) ((a*2 ^ k / 4294967296:Nat):Int)) (by omega)
   (okL_set (okL_set hok _ _ (Int.natCast_nonneg _) (Int.ofNat_lt.2 hol)) _ _ (Int.natCast_nonneg _) (by generalize a*2 ^ k / 4294967296=z at *;omega)) (by simp [hlen]) ⟨by rw [List.length_set,List.length_set];exact hi1,List.getElem_set_self _⟩ hdiv (by
   constructor
   rw [List.take_set_of_le (Nat.le_refl _),take_set_succ _ _ hio,vL_snoc,List.length_take,Nat.min_eq_left (by omega),HT.out,Int.toNat_natCast,Nat.pow_succ]
   have hv:=HV.out
   have e2:4294967296 ^ i*(a*2 ^ k % 4294967296)+4294967296 ^ i*4294967296*(a*2 ^ k / 4294967296)=4294967296 ^ i*(a*2 ^ k):=by
    rw [Nat.mul_assoc,← Nat.mul_add,Nat.mod_add_div]
   rw [Nat.mul_add,← Nat.add_assoc,hv,Nat.add_assoc,e2]
   grind)
  refine ⟨q, .more (step_shift0 ?_) h1,h2⟩
  clear h1 h2 ih HV HT
  have hr:=round_shift0 k out xs xs.length i
  have e1:(i:Int)+1=((i+1:Nat):Int):=by omega
  generalize hz:a*2 ^ k / 4294967296=z at*
  have hz2:z % 4294967296=z:=Nat.mod_eq_of_lt (by omega)
  simp only [e1,Int.toNat_natCast,Nat.zero_add,Nat.mul_one] at hr
  simp only [Int.toNat_natCast] at hsh
  rw [hra,hro,hsh,u32w,hor,fdiv32,hz,u32w,hz2,List.length_set,u64T (show 0≤(a:Int)∧(a:Int)≤18446744073709551615 by omega),i64L _ (by omega),dT (show (i:Int) < (xs.length:Int) by omega),dT (show (0:Int)≤(i:Int) by omega),dT (show (i:Int) < (out.length:Int) by omega),dT hio,dF (show ¬ (k:Int) < 0 by omega),dT (show (0:Int)≤((i+1:Nat):Int) by omega),dT (show ((i+1:Nat):Int) < (out.length:Int) by omega),dT hi1] at hr
  rw [hr]
  unfold sh_shift0 hp_shift0
  rw [List.length_set,List.length_set]
  rfl
theorem loop_shift0 (k:Int) (zs xs:List Int) (n i:Int) (h:pre_shift0 k zs xs n i):∃ q:List Int×Int,LoopTo Tryz.prog (lb 171 p_shift0) (sh_shift0 k zs xs n i) (hp_shift0 k zs xs n i) (.exit 0) (sh_shift0 k q.1 xs n q.2) (hp_shift0 k q.1 xs n q.2)∧post_shift0 k zs xs n i q:=by
 obtain ⟨h1,h2,rfl,h4,rfl,rfl,a,rfl,ha⟩:=h
 unfold post_shift0
 rw [Int.toNat_natCast]
 exact shift0_go a xs h1 h4 ha xs.length 0 0 _ (by omega) (okL_replicate _) (by simp) ⟨by simp,by simp⟩ (Nat.two_pow_pos a) ⟨by simp [vL_nil]⟩
def told_shift0 (κ:Int→List Int→List Int→Int→Int→Bool) (φ:Int→List Int→List Int→Int→Int→List Int×Int) (T:List AV) (H:Hp):Option (Bool×Ex×List AV×Hp):=
 match lget T 1,lget T 5,lget T 13,lget T 14,lget T 15,H with
 | .val (.int .i64 k), .sl false 129 0 0 m_zs, .lst false 129 m_xs f_xs, .val (.int .i64 n), .val (.int .i64 i), [.row (.ints .u32 zs) 129 .live]=>bif T.length==41 then some (okB m_xs f_xs&&decide (m_zs=zs.length)&&κ k zs (rowOf m_xs f_xs) n i, .exit 0,sh_shift0 k ((φ k zs (rowOf m_xs f_xs) n i).1) (rowOf m_xs f_xs) n ((φ k zs (rowOf m_xs f_xs) n i).2),hp_shift0 k ((φ k zs (rowOf m_xs f_xs) n i).1) (rowOf m_xs f_xs) n ((φ k zs (rowOf m_xs f_xs) n i).2)) else none
 | _,_,_,_,_,_=>none
abbrev KT_shift0:Type:=Int→List Int→List Int→Int→Int→Bool
abbrev FT_shift0:Type:=Int→List Int→List Int→Int→Int→List Int×Int
def LL_shift0 (κ:KT_shift0) (φ:FT_shift0) (L:LTab):LTab:=addLn 0 171 p_shift0 [1,5,13,14,15] (told_shift0 κ φ) L
def phi_shift0 (k:Int) (zs:List Int) (xs:List Int) (n:Int) (i:Int):List Int×Int:=Classical.epsilon fun ρ=>LoopTo Tryz.prog (lb 171 p_shift0) (sh_shift0 k zs xs n i) (hp_shift0 k zs xs n i) (.exit 0) (sh_shift0 k (ρ.1) xs n (ρ.2)) (hp_shift0 k (ρ.1) xs n (ρ.2))∧post_shift0 k zs xs n i ρ
theorem phi_shift0_spec (k:Int) (zs:List Int) (xs:List Int) (n:Int) (i:Int) (h:pre_shift0 k zs xs n i):LoopTo Tryz.prog (lb 171 p_shift0) (sh_shift0 k zs xs n i) (hp_shift0 k zs xs n i) (.exit 0) (sh_shift0 k ((phi_shift0 k zs xs n i).1) xs n ((phi_shift0 k zs xs n i).2)) (hp_shift0 k ((phi_shift0 k zs xs n i).1) xs n ((phi_shift0 k zs xs n i).2))∧post_shift0 k zs xs n i (phi_shift0 k zs xs n i):=Classical.epsilon_spec (loop_shift0 k zs xs n i h)
def cond_shift0 (k:Int) (zs:List Int) (xs:List Int) (n:Int) (i:Int):Bool:= @decide (pre_shift0 k zs xs n i) (Classical.propDecidable _)
theorem cond_shift0_eq (k:Int) (zs:List Int) (xs:List Int) (n:Int) (i:Int) (h:pre_shift0 k zs xs n i):cond_shift0 k zs xs n i=true:= @decide_eq_true _ (Classical.propDecidable _) h
theorem told_shift0_ok (T:List AV) (H:Hp) (e:Ex) (T1:List AV) (H1:Hp) (h:told_shift0 cond_shift0 phi_shift0 T H=some (true,e,T1,H1)):V.Ends Tryz.prog false 0 0 (.loop (lb 171 p_shift0)) T H e T1 H1:=by
 unfold told_shift0 at h
 split at h
 ·rename_i k m_zs m_xs f_xs n i zs h1 h5 h13 h14 h15
  rw [Bool.cond_eq_ite] at h
  split at h
  ·rename_i hlen
   rw [beq_iff_eq] at hlen
   simp only [Option.some.injEq,Prod.mk.injEq,Bool.and_eq_true,decide_eq_true_eq] at h
   obtain ⟨⟨⟨k1,k2⟩,k3⟩,rfl,rfl,rfl⟩:=h
   have kc:= @of_decide_eq_true _ (Classical.propDecidable _) k3
   refine Ends.pre (phi_shift0_spec k zs (rowOf m_xs f_xs) n i kc).1.ends (fun α B w D ys hr=>slots_rel hlen (fun p hp y hy=> ?_) hr)
   simp only [List.mem_cons,List.not_mem_nil,or_false] at hp
   rcases hp with rfl | rfl | rfl | rfl | rfl
   ·rw [h1] at hy;exact hy
   ·rw [h5] at hy;rw [← k2];exact hy
   ·rw [h13] at hy;rw [rowOf_len];exact row_norm cells129 k1 hy
   ·rw [h14] at hy;exact hy
   ·rw [h15] at hy;exact hy
  ·cases h
 ·cases h
theorem LL_shift0_ok {L:LTab} (h:LOk Tryz.prog L):LOk Tryz.prog (LL_shift0 cond_shift0 phi_shift0 L):=h.add2n body_shift0 told_shift0_ok
abbrev p_shift1:List Bool:= [false,true,false,true,true]
def sh_shift1 (k:Int) (zs:List Int) (xs:List Int) (n:Int) (i:Int) (us:List Int):List AV:=slots 41 [(1, .val (.int .i64 k)),(5, .sl false 129 1 0 zs.length),(13, .lst false 129 xs.length (lim xs)),(14, .val (.int .i64 n)),(15, .val (.int .i64 i))]
def hp_shift1 (k:Int) (zs:List Int) (xs:List Int) (n:Int) (i:Int) (us:List Int):Hp:= [.row (.ints .u32 us) 129 .live, .row (.ints .u32 zs) 129 .live]
theorem body_shift1:subC Tryz.prog 171 p_shift1=some (.loop (lb 171 p_shift1)):=by kernel_rfl
theorem code_shift1:subC Tryz.prog 171 (false :: p_shift1)=some (lb 171 p_shift1):=by kernel_rfl
theorem round_shift1 (k:Int) (zs:List Int) (xs:List Int) (n:Int) (i:Int) (us:List Int):letI q_1:=(zs.set ((0:Nat)+i.toNat*(1:Nat)) (bitI BinOp.or IntKind.u32 (zs.getD ((0:Nat)+i.toNat*(1:Nat)) (0:Int)) (IntKind.u32.wrap (IntKind.u64.wrap (xs.getD i.toNat (0:Int)*(2:Int) ^ min k.toNat (64:Nat))))));
  (roundB Tryz.prog EL0 1 171 [1,5,13,14,15] (lb 171 p_shift1) (false :: p_shift1) (sh_shift1 k zs xs n i us) (hp_shift1 k zs xs n i us)=(bif decide (i < n) then (bif decide ((0:Int)≤i)&&decide (i < (↑xs.length:Int)) then (bif inR IntKind.u64 (xs.getD i.toNat (0:Int)) then (bif decide (k < (0:Int)) then none else (bif decide ((0:Int)≤i)&&decide (i < (↑zs.length:Int)) then (bif decide ((0:Nat)+i.toNat*(1:Nat) < zs.length) then (bif decide ((0:Int)≤i)&&decide (i < (↑zs.length:Int)) then (bif decide ((0:Nat)+i.toNat*(1:Nat) < zs.length) then (bif inR IntKind.i64 (i+(1:Int)) then (bif decide ((0:Int)≤i+(1:Int))&&decide (i+(1:Int) < (↑zs.length:Int)) then (bif decide ((0:Nat)+(i+(1:Int)).toNat*(1:Nat) < q_1.length) then (bif inR IntKind.i64 (i+(1:Int)) then some (.normal,slots 41 [(1,(.val (.int .i64 k))),(5,(.sl false 129 1 0 zs.length)),(13,(.lst false 129 xs.length (lim xs))),(14,(.val (.int .i64 n))),(15,(.val (.int .i64 (i+(1:Int)))))], [(.row (.ints .u32 us) 129 .live),(.row (.ints .u32 (q_1.set ((0:Nat)+(i+(1:Int)).toNat*(1:Nat)) (IntKind.u32.wrap ((IntKind.u64.wrap (xs.getD i.toNat (0:Int)*(2:Int) ^ min k.toNat (64:Nat))).fdiv (4294967296:Int))))) 129 .live)]) else none) else none) else none) else none) else none) else none) else none) else none)) else none) else none) else some ((.exit 0),slots 41 [(1,(.val (.int .i64 k))),(5,(.sl false 129 1 0 zs.length)),(13,(.lst false 129 xs.length (lim xs))),(14,(.val (.int .i64 n))),(15,(.val (.int .i64 i)))], [(.row (.ints .u32 us) 129 .live),(.row (.ints .u32 zs) 129 .live)]))):=by kernel_rfl
theorem step_shift1 {k:Int} {zs:List Int} {xs:List Int} {n:Int} {i:Int} {us:List Int} {e:Ex} {T:List AV} {H:Hp} (h:roundB Tryz.prog EL0 1 171 [1,5,13,14,15] (lb 171 p_shift1) (false :: p_shift1) (sh_shift1 k zs xs n i us) (hp_shift1 k zs xs n i us)=some (e,T,H)):V.Ends Tryz.prog false 1 0 (lb 171 p_shift1) (sh_shift1 k zs xs n i us) (hp_shift1 k zs xs n i us) e T H:=
 round_endsB (meets_none _) loops_none mixed code_shift1 h
def pre_shift1 (k:Int) (zs xs:List Int) (n i:Int) (us:List Int):Prop:=okL xs∧okL zs∧zs=List.replicate (xs.length+1) 0∧xs.length≤17592186044415∧n=xs.length∧i=0∧∃ a:Nat,k=a∧a < 32
def post_shift1 (k:Int) (zs xs:List Int) (n i:Int) (us:List Int) (q:List Int×Int):Prop:=okL q.1∧q.1.length=xs.length+1∧vL q.1=2 ^ k.toNat*vL xs
theorem shift1_go (k:Nat) (xs:List Int) (hl:okL xs) (hb:xs.length≤17592186044415) (hn:k < 32) (us:List Int) (d:Nat):∀ (i c:Nat) (out:List Int),i+d=xs.length→okL out→out.length=xs.length+1→(∃ h:i < out.length,out[i]=(c:Int))→c < 2 ^ k→
  Aside0 (vL (out.take i)+4294967296 ^ i*c=2 ^ k*vL (xs.take i))→
  ∃ q:List Int×Int,LoopToB Tryz.prog 1 (lb 171 p_shift1) (sh_shift1 k out xs xs.length i us) (hp_shift1 k out xs xs.length i us) (.exit 0) (sh_shift1 k q.1 xs xs.length q.2 us) (hp_shift1 k q.1 xs xs.length q.2 us)∧okL q.1∧q.1.length=xs.length+1∧vL q.1=2 ^ k*vL xs:=by
 induction d with
 | zero=>
  intro i c out hi hok hlen hcc hc hv
  obtain ⟨hio,hcc⟩:=hcc
  have hi':i=xs.length:=by omega
  refine ⟨(out,(i:Int)), .last (step_shift1 ?_) (by intro h;cases h),hok,hlen, ?_⟩
  ·rw [round_shift1,dF (show ¬ ((i:Int) < xs.length) by omega)]
   rfl
  ·have h1:=vL_take_succ out i hio
   rw [List.take_of_length_le (by omega),hcc,Int.toNat_natCast,hv.out,List.take_of_length_le (by omega)] at h1
   exact h1
 | succ d ih=>
  intro i c out hi hok hlen hcc hc HV
  obtain ⟨hio,hcc⟩:=hcc
  have hil:i < xs.length:=by omega
  have hi1:i+1 < out.length:=by omega
  obtain ⟨a,ha,hea,hra⟩:=getD_limb hl i hil
  have hro:out.getD i 0=(c:Int):=by rw [List.getD_eq_getElem?_getD,List.getElem?_eq_getElem hio,Option.getD_some,hcc]
  have HT:=Aside0.mk (vL_take_succ xs i hil)
  rw [hea,Int.toNat_natCast] at HT
  have hsh:=shl_u64 a k ha hn
  have hsl:=(shl64 a k ha hn).2
  have hor:=or_u32 c a k hc hn
  have hol:=(shift_or c a k hc hn).2
  have hdiv:a*2 ^ k / 4294967296 < 2 ^ k:=by
   rw [Nat.div_lt_iff_lt_mul (by decide),Nat.mul_comm (2 ^ k)];exact hsl
  have h2n:(2:Nat) ^ k≤2 ^ 31:=Nat.pow_le_pow_right (by decide) (by omega)
  have h31:(2:Nat) ^ 31=2147483648:=rfl
  obtain ⟨q,h1,h2⟩:=ih (i+1) (a*2 ^ k / 4294967296) ((out.set i ((c+a*2 ^ k % 4294967296:Nat):Int)).set (i+1) ((a*2 ^ k / 4294967296:Nat):Int)) (by omega)
   (okL_set (okL_set hok _ _ (Int.natCast_nonneg _) (Int.ofNat_lt.2 hol)) _ _ (Int.natCast_nonneg _) (by generalize a*2 ^ k / 4294967296=z at *;omega)) (by simp [hlen]) ⟨by rw [List.length_set,List.length_set];exact hi1,List.getElem_set_self _⟩ hdiv (by
   constructor
   rw [List.take_set_of_le (Nat.le_refl _),take_set_succ _ _ hio,vL_snoc,List.length_take,Nat.min_eq_left (by omega),HT.out,Int.toNat_natCast,Nat.pow_succ]
   have hv:=HV.out
   have e2:4294967296 ^ i*(a*2 ^ k % 4294967296)+4294967296 ^ i*4294967296*(a*2 ^ k / 4294967296)=4294967296 ^ i*(a*2 ^ k):=by
    rw [Nat.mul_assoc,← Nat.mul_add,Nat.mod_add_div]
   rw [Nat.mul_add,← Nat.add_assoc,hv,Nat.add_assoc,e2]
   grind)
  refine ⟨q, .more (step_shift1 ?_) h1,h2⟩
  clear h1 h2 ih HV HT
  have hr:=round_shift1 k out xs xs.length i us
  have e1:(i:Int)+1=((i+1:Nat):Int):=by omega
  generalize hz:a*2 ^ k / 4294967296=z at*
  have hz2:z % 4294967296=z:=Nat.mod_eq_of_lt (by omega)
  simp only [e1,Int.toNat_natCast,Nat.zero_add,Nat.mul_one] at hr
  simp only [Int.toNat_natCast] at hsh
  rw [hra,hro,hsh,u32w,hor,fdiv32,hz,u32w,hz2,List.length_set,u64T (show 0≤(a:Int)∧(a:Int)≤18446744073709551615 by omega),i64L _ (by omega),dT (show (i:Int) < (xs.length:Int) by omega),dT (show (0:Int)≤(i:Int) by omega),dT (show (i:Int) < (out.length:Int) by omega),dT hio,dF (show ¬ (k:Int) < 0 by omega),dT (show (0:Int)≤((i+1:Nat):Int) by omega),dT (show ((i+1:Nat):Int) < (out.length:Int) by omega),dT hi1] at hr
  rw [hr]
  unfold sh_shift1 hp_shift1
  rw [List.length_set,List.length_set]
  rfl
theorem loop_shift1 (k:Int) (zs xs:List Int) (n i:Int) (us:List Int) (h:pre_shift1 k zs xs n i us):∃ q:List Int×Int,LoopToB Tryz.prog 1 (lb 171 p_shift1) (sh_shift1 k zs xs n i us) (hp_shift1 k zs xs n i us) (.exit 0) (sh_shift1 k q.1 xs n q.2 us) (hp_shift1 k q.1 xs n q.2 us)∧post_shift1 k zs xs n i us q:=by
 obtain ⟨h1,h2,rfl,h4,rfl,rfl,a,rfl,ha⟩:=h
 unfold post_shift1
 rw [Int.toNat_natCast]
 exact shift1_go a xs h1 h4 ha us xs.length 0 0 _ (by omega) (okL_replicate _) (by simp) ⟨by simp,by simp⟩ (Nat.two_pow_pos a) ⟨by simp [vL_nil]⟩
def told_shift1 (κ:Int→List Int→List Int→Int→Int→List Int→Bool) (φ:Int→List Int→List Int→Int→Int→List Int→List Int×Int) (T:List AV) (H:Hp):Option (Bool×Ex×List AV×Hp):=
 match lget T 1,lget T 5,lget T 13,lget T 14,lget T 15,H with
 | .val (.int .i64 k), .sl false 129 1 0 m_zs, .lst false 129 m_xs f_xs, .val (.int .i64 n), .val (.int .i64 i), [.row (.ints .u32 us) 129 .live, .row (.ints .u32 zs) 129 .live]=>bif T.length==41 then some (okB m_xs f_xs&&decide (m_zs=zs.length)&&κ k zs (rowOf m_xs f_xs) n i us, .exit 0,sh_shift1 k ((φ k zs (rowOf m_xs f_xs) n i us).1) (rowOf m_xs f_xs) n ((φ k zs (rowOf m_xs f_xs) n i us).2) us,hp_shift1 k ((φ k zs (rowOf m_xs f_xs) n i us).1) (rowOf m_xs f_xs) n ((φ k zs (rowOf m_xs f_xs) n i us).2) us) else none
 | _,_,_,_,_,_=>none
abbrev KT_shift1:Type:=Int→List Int→List Int→Int→Int→List Int→Bool
abbrev FT_shift1:Type:=Int→List Int→List Int→Int→Int→List Int→List Int×Int
def LL_shift1 (κ:KT_shift1) (φ:FT_shift1) (L:LTab):LTab:=addLn 1 171 p_shift1 [1,5,13,14,15] (told_shift1 κ φ) L
def phi_shift1 (k:Int) (zs:List Int) (xs:List Int) (n:Int) (i:Int) (us:List Int):List Int×Int:=Classical.epsilon fun ρ=>LoopToB Tryz.prog 1 (lb 171 p_shift1) (sh_shift1 k zs xs n i us) (hp_shift1 k zs xs n i us) (.exit 0) (sh_shift1 k (ρ.1) xs n (ρ.2) us) (hp_shift1 k (ρ.1) xs n (ρ.2) us)∧post_shift1 k zs xs n i us ρ
theorem phi_shift1_spec (k:Int) (zs:List Int) (xs:List Int) (n:Int) (i:Int) (us:List Int) (h:pre_shift1 k zs xs n i us):LoopToB Tryz.prog 1 (lb 171 p_shift1) (sh_shift1 k zs xs n i us) (hp_shift1 k zs xs n i us) (.exit 0) (sh_shift1 k ((phi_shift1 k zs xs n i us).1) xs n ((phi_shift1 k zs xs n i us).2) us) (hp_shift1 k ((phi_shift1 k zs xs n i us).1) xs n ((phi_shift1 k zs xs n i us).2) us)∧post_shift1 k zs xs n i us (phi_shift1 k zs xs n i us):=Classical.epsilon_spec (loop_shift1 k zs xs n i us h)
def cond_shift1 (k:Int) (zs:List Int) (xs:List Int) (n:Int) (i:Int) (us:List Int):Bool:= @decide (pre_shift1 k zs xs n i us) (Classical.propDecidable _)
theorem cond_shift1_eq (k:Int) (zs:List Int) (xs:List Int) (n:Int) (i:Int) (us:List Int) (h:pre_shift1 k zs xs n i us):cond_shift1 k zs xs n i us=true:= @decide_eq_true _ (Classical.propDecidable _) h
theorem told_shift1_ok (T:List AV) (H:Hp) (e:Ex) (T1:List AV) (H1:Hp) (h:told_shift1 cond_shift1 phi_shift1 T H=some (true,e,T1,H1)):V.Ends Tryz.prog false 1 0 (.loop (lb 171 p_shift1)) T H e T1 H1:=by
 unfold told_shift1 at h
 split at h
 ·rename_i k m_zs m_xs f_xs n i us zs h1 h5 h13 h14 h15
  rw [Bool.cond_eq_ite] at h
  split at h
  ·rename_i hlen
   rw [beq_iff_eq] at hlen
   simp only [Option.some.injEq,Prod.mk.injEq,Bool.and_eq_true,decide_eq_true_eq] at h
   obtain ⟨⟨⟨k1,k2⟩,k3⟩,rfl,rfl,rfl⟩:=h
   have kc:= @of_decide_eq_true _ (Classical.propDecidable _) k3
   refine Ends.pre (phi_shift1_spec k zs (rowOf m_xs f_xs) n i us kc).1.ends (fun α B w D ys hr=>slots_rel hlen (fun p hp y hy=> ?_) hr)
   simp only [List.mem_cons,List.not_mem_nil,or_false] at hp
   rcases hp with rfl | rfl | rfl | rfl | rfl
   ·rw [h1] at hy;exact hy
   ·rw [h5] at hy;rw [← k2];exact hy
   ·rw [h13] at hy;rw [rowOf_len];exact row_norm cells129 k1 hy
   ·rw [h14] at hy;exact hy
   ·rw [h15] at hy;exact hy
  ·cases h
 ·cases h
theorem LL_shift1_ok {L:LTab} (h:LOk Tryz.prog L):LOk Tryz.prog (LL_shift1 cond_shift1 phi_shift1 L):=h.add2n body_shift1 told_shift1_ok
abbrev p_unshift:List Bool:= [false,true,false,true,true]
def sh_unshift (xs:List Int) (k:Int) (zs:List Int) (n:Int) (i:Int):List AV:=slots 45 [(0, .lst false 129 xs.length (lim xs)),(1, .val (.int .i64 k)),(5, .sl false 129 0 0 zs.length),(12, .val (.int .i64 n)),(13, .val (.int .i64 i))]
def hp_unshift (xs:List Int) (k:Int) (zs:List Int) (n:Int) (i:Int):Hp:= [.row (.ints .u32 zs) 129 .live]
theorem body_unshift:subC Tryz.prog 158 p_unshift=some (.loop (lb 158 p_unshift)):=by kernel_rfl
theorem code_unshift:subC Tryz.prog 158 (false :: p_unshift)=some (lb 158 p_unshift):=by kernel_rfl
theorem round_unshift (xs:List Int) (k:Int) (zs:List Int) (n:Int) (i:Int):
  (roundA Tryz.prog EL0 158 [0,1,5,12,13] (lb 158 p_unshift) (false :: p_unshift) (sh_unshift xs k zs n i) (hp_unshift xs k zs n i)=(bif decide (i < n) then (bif decide ((0:Int)≤i)&&decide (i < (↑xs.length:Int)) then (bif inR IntKind.u64 (xs.getD i.toNat (0:Int)) then (bif inR IntKind.i64 (i+(1:Int)) then (bif decide (i+(1:Int) < (↑xs.length:Int)) then (bif inR IntKind.i64 (i+(1:Int)) then (bif decide ((0:Int)≤i+(1:Int))&&decide (i+(1:Int) < (↑xs.length:Int)) then (bif inR IntKind.u64 (xs.getD (i+(1:Int)).toNat (0:Int)) then (bif decide (k < (0:Int)) then none else (bif decide ((0:Int)≤i)&&decide (i < (↑zs.length:Int)) then (bif decide ((0:Nat)+i.toNat*(1:Nat) < zs.length) then (bif inR IntKind.i64 (i+(1:Int)) then some (.normal,slots 45 [(0,(.lst false 129 xs.length (lim xs))),(1,(.val (.int .i64 k))),(5,(.sl false 129 0 0 zs.length)),(12,(.val (.int .i64 n))),(13,(.val (.int .i64 (i+(1:Int)))))], [(.row (.ints .u32 (zs.set ((0:Nat)+i.toNat*(1:Nat)) (IntKind.u32.wrap ((bitI BinOp.or IntKind.u64 (xs.getD i.toNat (0:Int)) (IntKind.u64.wrap (xs.getD (i+(1:Int)).toNat (0:Int)*(4294967296:Int)))).fdiv ((2:Int) ^ min k.toNat (64:Nat)))))) 129 .live)]) else none) else none) else none)) else none) else none) else none) else (bif decide (k < (0:Int)) then none else (bif decide ((0:Int)≤i)&&decide (i < (↑zs.length:Int)) then (bif decide ((0:Nat)+i.toNat*(1:Nat) < zs.length) then (bif inR IntKind.i64 (i+(1:Int)) then some (.normal,slots 45 [(0,(.lst false 129 xs.length (lim xs))),(1,(.val (.int .i64 k))),(5,(.sl false 129 0 0 zs.length)),(12,(.val (.int .i64 n))),(13,(.val (.int .i64 (i+(1:Int)))))], [(.row (.ints .u32 (zs.set ((0:Nat)+i.toNat*(1:Nat)) (IntKind.u32.wrap ((xs.getD i.toNat (0:Int)).fdiv ((2:Int) ^ min k.toNat (64:Nat)))))) 129 .live)]) else none) else none) else none))) else none) else none) else none) else some ((.exit 0),slots 45 [(0,(.lst false 129 xs.length (lim xs))),(1,(.val (.int .i64 k))),(5,(.sl false 129 0 0 zs.length)),(12,(.val (.int .i64 n))),(13,(.val (.int .i64 i)))], [(.row (.ints .u32 zs) 129 .live)]))):=by kernel_rfl
theorem step_unshift {xs:List Int} {k:Int} {zs:List Int} {n:Int} {i:Int} {e:Ex} {T:List AV} {H:Hp} (h:roundA Tryz.prog EL0 158 [0,1,5,12,13] (lb 158 p_unshift) (false :: p_unshift) (sh_unshift xs k zs n i) (hp_unshift xs k zs n i)=some (e,T,H)):V.Ends Tryz.prog false 0 0 (lb 158 p_unshift) (sh_unshift xs k zs n i) (hp_unshift xs k zs n i) e T H:=
 round_ends (meets_none _) loops_none mixed code_unshift h
def pre_unshift (xs:List Int) (k:Int) (zs:List Int) (n i:Int):Prop:=okL xs∧okL zs∧zs.length=xs.length∧xs.length≤17592186044416∧n=xs.length∧i=0∧∃ a:Nat,k=a∧a≤32
def post_unshift (xs:List Int) (k:Int) (zs:List Int) (n i:Int) (q:List Int×Int):Prop:=okL q.1∧q.1.length=xs.length∧vL q.1=vL xs / 2 ^ k.toNat
theorem shr_u64 (z k:Nat) (hk:k≤32):((z:Nat):Int).fdiv (2 ^ min ((k:Int).toNat) 64)=((z / 2 ^ k:Nat):Int):=by
 rw [Int.toNat_natCast,Nat.min_eq_left (by omega),show ((2:Int) ^ k)=((2 ^ k:Nat):Int) by norm_cast]
 exact fdivN _ _
theorem cat64 (a y:Nat) (ha:a < 4294967296) (hy:y < 4294967296):bitI .or .u64 (a:Int) (IntKind.u64.wrap ((y:Int)*4294967296))=((a+y*4294967296:Nat):Int):=by
 have h:Go.bits .or .u64 ((a:Nat):Int) ((y*4294967296:Nat):Int)=((a+y*4294967296:Nat):Int):=by
  rw [u64_or_nat _ _ (by omega) (by omega),Nat.or_comm,nat_join 32 _ _ (by omega) (by omega),Nat.add_comm]
 rw [show (y:Int)*4294967296=((y*4294967296:Nat):Int) from rfl,u64n (by omega)]
 exact h
theorem unshift_go (xs:List Int) (k:Nat) (hl:okL xs) (hb:xs.length≤17592186044416) (hn:k≤32) (d:Nat):∀ (i:Nat) (out:List Int),i+d=xs.length→okL out→out.length=xs.length→Aside0 (vL (out.take i)=vL xs / 2 ^ k % 4294967296 ^ i)→
  ∃ q:List Int×Int,LoopTo Tryz.prog (lb 158 p_unshift) (sh_unshift xs k out xs.length i) (hp_unshift xs k out xs.length i) (.exit 0) (sh_unshift xs k q.1 xs.length q.2) (hp_unshift xs k q.1 xs.length q.2)∧okL q.1∧q.1.length=xs.length∧vL q.1=vL xs / 2 ^ k:=by
 induction d with
 | zero=>
  intro i out hi hok hlen hv
  refine ⟨(out,(i:Int)), .last (step_unshift ?_) (by intro h;cases h),hok,hlen, ?_⟩
  ·rw [round_unshift,dF (show ¬ ((i:Int) < xs.length) by omega)]
   rfl
  ·have hv:=hv.out
   rw [List.take_of_length_le (by omega),Nat.mod_eq_of_lt] at hv
   ·exact hv
   ·refine Nat.lt_of_le_of_lt (Nat.div_le_self _ _) ?_
    have:=vL_lt hl
    rwa [show i=xs.length by omega]
 | succ d ih=>
  intro i out hi hok hlen HV
  have hil:i < xs.length:=by omega
  have hio:i < out.length:=by omega
  obtain ⟨a,ha,hea,hra⟩:=getD_limb hl i hil
  have hd1:xs.drop i=(a:Int) :: xs.drop (i+1):=by rw [List.drop_eq_getElem_cons hil,hea]
  have stp:∀ y Z:Nat,y < 4294967296→vL (xs.drop (i+1))=y+4294967296*Z→
    vL ((out.set i (((a+y*4294967296) / 2 ^ k % 4294967296:Nat):Int)).take (i+1))=vL xs / 2 ^ k % 4294967296 ^ (i+1):=by
   intro y Z hy hyZ
   rw [take_set_succ _ _ hio,vL_snoc,List.length_take,Nat.min_eq_left (by omega),Int.toNat_natCast,HV.out,mod_pow_succ]
   rw [digit_of (vL xs) i k a y Z (by rw [div_pow_take hl i (by omega),hd1,vL_cons,hyZ,Int.toNat_natCast]) hn]
  have hr:=round_unshift xs k out xs.length i
  have e1:(i:Int)+1=((i+1:Nat):Int):=by omega
  simp only [e1,Int.toNat_natCast,Nat.zero_add,Nat.mul_one] at hr
  have hsr:=shr_u64
  simp only [Int.toNat_natCast] at hsr
  rw [hra,u64T (show 0≤(a:Int)∧(a:Int)≤18446744073709551615 by omega),i64L _ (by omega),dT (show (i:Int) < (xs.length:Int) by omega),dT (show (0:Int)≤(i:Int) by omega),dF (show ¬ (k:Int) < 0 by omega),dT (show (i:Int) < (out.length:Int) by omega),dT hio] at hr
  by_cases hl2:i+1 < xs.length
  ·obtain ⟨y,hy,hey,hry⟩:=getD_limb hl (i+1) hl2
   have hd2:vL (xs.drop (i+1))=y+4294967296*vL (xs.drop (i+2)):=by rw [List.drop_eq_getElem_cons hl2,hey,vL_cons,Int.toNat_natCast]
   obtain ⟨q,h1,h2⟩:=ih (i+1) _ (by omega) (okL_set hok i _ (limbN ((a+y*4294967296) / 2 ^ k)).1 (limbN _).2) (by rw [List.length_set];exact hlen) ⟨stp y _ hy hd2⟩
   refine ⟨q, .more (step_unshift ?_) h1,h2⟩
   clear h1 h2 ih HV stp
   rw [dT (show ((i+1:Nat):Int) < (xs.length:Int) by omega),hry,u64T (show 0≤(y:Int)∧(y:Int)≤18446744073709551615 by omega),dT (show (0:Int)≤((i+1:Nat):Int) by omega),cat64 a y ha hy,hsr _ _ hn,u32w] at hr
   rw [hr]
   unfold sh_unshift hp_unshift
   rw [List.length_set]
   rfl
  ·have hd2:vL (xs.drop (i+1))=0+4294967296*0:=by rw [List.drop_of_length_le (by omega)];rfl
   obtain ⟨q,h1,h2⟩:=ih (i+1) _ (by omega) (okL_set hok i _ (limbN ((a+0*4294967296) / 2 ^ k)).1 (limbN _).2) (by rw [List.length_set];exact hlen) ⟨stp 0 _ (by omega) hd2⟩
   refine ⟨q, .more (step_unshift ?_) h1,h2⟩
   clear h1 h2 ih HV stp
   rw [dF (show ¬ ((i+1:Nat):Int) < (xs.length:Int) by omega),hsr _ _ hn,u32w] at hr
   rw [hr,Nat.zero_mul,Nat.add_zero]
   unfold sh_unshift hp_unshift
   rw [List.length_set]
   rfl
theorem loop_unshift (xs:List Int) (k:Int) (zs:List Int) (n i:Int) (h:pre_unshift xs k zs n i):∃ q:List Int×Int,LoopTo Tryz.prog (lb 158 p_unshift) (sh_unshift xs k zs n i) (hp_unshift xs k zs n i) (.exit 0) (sh_unshift xs k q.1 n q.2) (hp_unshift xs k q.1 n q.2)∧post_unshift xs k zs n i q:=by
 obtain ⟨h1,h2,h3,h4,rfl,rfl,a,rfl,ha⟩:=h
 unfold post_unshift
 rw [Int.toNat_natCast]
 exact unshift_go xs a h1 h4 ha xs.length 0 zs (by omega) h2 h3 ⟨by rw [List.take_zero,vL_nil,Nat.pow_zero,Nat.mod_one]⟩
def told_unshift (κ:List Int→Int→List Int→Int→Int→Bool) (φ:List Int→Int→List Int→Int→Int→List Int×Int) (T:List AV) (H:Hp):Option (Bool×Ex×List AV×Hp):=
 match lget T 0,lget T 1,lget T 5,lget T 12,lget T 13,H with
 | .lst false 129 m_xs f_xs, .val (.int .i64 k), .sl false 129 0 0 m_zs, .val (.int .i64 n), .val (.int .i64 i), [.row (.ints .u32 zs) 129 .live]=>bif T.length==45 then some (okB m_xs f_xs&&decide (m_zs=zs.length)&&κ (rowOf m_xs f_xs) k zs n i, .exit 0,sh_unshift (rowOf m_xs f_xs) k ((φ (rowOf m_xs f_xs) k zs n i).1) n ((φ (rowOf m_xs f_xs) k zs n i).2),hp_unshift (rowOf m_xs f_xs) k ((φ (rowOf m_xs f_xs) k zs n i).1) n ((φ (rowOf m_xs f_xs) k zs n i).2)) else none
 | _,_,_,_,_,_=>none
abbrev KT_unshift:Type:=List Int→Int→List Int→Int→Int→Bool
abbrev FT_unshift:Type:=List Int→Int→List Int→Int→Int→List Int×Int
def LL_unshift (κ:KT_unshift) (φ:FT_unshift) (L:LTab):LTab:=addLn 0 158 p_unshift [0,1,5,12,13] (told_unshift κ φ) L
def phi_unshift (xs:List Int) (k:Int) (zs:List Int) (n:Int) (i:Int):List Int×Int:=Classical.epsilon fun ρ=>LoopTo Tryz.prog (lb 158 p_unshift) (sh_unshift xs k zs n i) (hp_unshift xs k zs n i) (.exit 0) (sh_unshift xs k (ρ.1) n (ρ.2)) (hp_unshift xs k (ρ.1) n (ρ.2))∧post_unshift xs k zs n i ρ
theorem phi_unshift_spec (xs:List Int) (k:Int) (zs:List Int) (n:Int) (i:Int) (h:pre_unshift xs k zs n i):LoopTo Tryz.prog (lb 158 p_unshift) (sh_unshift xs k zs n i) (hp_unshift xs k zs n i) (.exit 0) (sh_unshift xs k ((phi_unshift xs k zs n i).1) n ((phi_unshift xs k zs n i).2)) (hp_unshift xs k ((phi_unshift xs k zs n i).1) n ((phi_unshift xs k zs n i).2))∧post_unshift xs k zs n i (phi_unshift xs k zs n i):=Classical.epsilon_spec (loop_unshift xs k zs n i h)
def cond_unshift (xs:List Int) (k:Int) (zs:List Int) (n:Int) (i:Int):Bool:= @decide (pre_unshift xs k zs n i) (Classical.propDecidable _)
theorem cond_unshift_eq (xs:List Int) (k:Int) (zs:List Int) (n:Int) (i:Int) (h:pre_unshift xs k zs n i):cond_unshift xs k zs n i=true:= @decide_eq_true _ (Classical.propDecidable _) h
theorem told_unshift_ok (T:List AV) (H:Hp) (e:Ex) (T1:List AV) (H1:Hp) (h:told_unshift cond_unshift phi_unshift T H=some (true,e,T1,H1)):V.Ends Tryz.prog false 0 0 (.loop (lb 158 p_unshift)) T H e T1 H1:=by
 unfold told_unshift at h
 split at h
 ·rename_i m_xs f_xs k m_zs n i zs h0 h1 h5 h12 h13
  rw [Bool.cond_eq_ite] at h
  split at h
  ·rename_i hlen
   rw [beq_iff_eq] at hlen
   simp only [Option.some.injEq,Prod.mk.injEq,Bool.and_eq_true,decide_eq_true_eq] at h
   obtain ⟨⟨⟨k1,k2⟩,k3⟩,rfl,rfl,rfl⟩:=h
   have kc:= @of_decide_eq_true _ (Classical.propDecidable _) k3
   refine Ends.pre (phi_unshift_spec (rowOf m_xs f_xs) k zs n i kc).1.ends (fun α B w D ys hr=>slots_rel hlen (fun p hp y hy=> ?_) hr)
   simp only [List.mem_cons,List.not_mem_nil,or_false] at hp
   rcases hp with rfl | rfl | rfl | rfl | rfl
   ·rw [h0] at hy;rw [rowOf_len];exact row_norm cells129 k1 hy
   ·rw [h1] at hy;exact hy
   ·rw [h5] at hy;rw [← k2];exact hy
   ·rw [h12] at hy;exact hy
   ·rw [h13] at hy;exact hy
  ·cases h
 ·cases h
theorem LL_unshift_ok {L:LTab} (h:LOk Tryz.prog L):LOk Tryz.prog (LL_unshift cond_unshift phi_unshift L):=h.add2n body_unshift told_unshift_ok
def EUn (S:Sg) (κ:KT_unshift) (φ:FT_unshift):Env:= ⟨CT S,Kall,LL_unshift κ φ noL⟩
theorem unshift_call (S:Sg) (κ:KT_unshift) (φ:FT_unshift) (xs:List Int) (k:Int):letI q_2:=(List.replicate (↑xs.length:Int).toNat (0:Int));letI q_1:=(φ (rowOf xs.length (lim xs)) k q_2 (↑xs.length:Int) (0:Int));
  (callA Tryz.prog (EUn S κ φ) 10 10 158 [.lst false 129 xs.length (lim xs), .val (.int .i64 k)]=(bif decide ((↑xs.length:Int)≤(↑xs.length:Int))&&decide ((4:Int)*(↑xs.length:Int)≤(281474976710656:Int))&&decide ((↑xs.length:Int)≤(9223372036854775807:Int)) then (bif okB xs.length (lim xs)&&decide ((↑xs.length:Int).toNat=q_2.length)&&κ (rowOf xs.length (lim xs)) k q_2 (↑xs.length:Int) (0:Int) then (bif decide ((0:Nat)+q_1.fst.length*(1:Nat)≤q_1.fst.length) then (bif S.okr q_1.fst.length (lim q_1.fst) then some (.lst false 129 (S.len (S.num q_1.fst.length (lim q_1.fst))) (S.row (S.num q_1.fst.length (lim q_1.fst)))) else none) else none) else none) else none)):=by kernel_rfl
def tUnshift (S:Sg) (args:List AV):Option (Bool×AV):=match args with | [.lst _ 129 m f, .val (.int .i64 k)]=>some (S.okr m f&&decide (0≤k)&&decide (k≤32),S.lmb (S.num m f / 2 ^ k.toNat)) | _=>none
theorem eUnshift:Entry Tryz.prog 158 (tUnshift sg0):=by
 refine entry_to (E:=EUn sg0 cond_unshift phi_unshift) (u:=10) (d:=10) CT_ok (LL_unshift_ok LOk.none).ok (by kernel_rfl) (fun args r h=> ?_)
 unfold tUnshift at h
 split at h
 ·rename_i fl m f k
  simp only [Option.some.injEq,Prod.mk.injEq,Bool.and_eq_true,decide_eq_true_eq] at h
  obtain ⟨⟨⟨h1,h2⟩,h3⟩,rfl⟩:=h
  obtain ⟨a1,a2,a3,a4⟩:=okr_out h1
  have hp:pre_unshift (rowOf m f) k (List.replicate (rowOf m f).length 0) (rowOf m f).length 0:= ⟨a2,okL_replicate _,by simp,a3,rfl,rfl,k.toNat,by omega,by omega⟩
  obtain ⟨_,c1,c2,c3⟩:=phi_unshift_spec _ _ _ _ _ hp
  have hcall:=unshift_call sg0 cond_unshift phi_unshift (rowOf m f) k
  simp only [rowOf_lim',Nat.mul_one,Nat.zero_add,Int.toNat_natCast,List.length_replicate,eq_self,decide_true] at hcall
  rw [cond_unshift_eq _ _ _ _ _ hp] at hcall
  generalize phi_unshift (rowOf m f) k (List.replicate (rowOf m f).length 0) (rowOf m f).length 0=q at*
  rw [okB_lim a2,dT (show ((rowOf m f).length:Int)≤((rowOf m f).length:Int) by omega),dT (show (4:Int)*((rowOf m f).length:Int)≤281474976710656 by omega),dT (show ((rowOf m f).length:Int)≤9223372036854775807 by omega),dT (show q.1.length≤q.1.length by omega),okr_lim c1 (by omega),num_lim,c3] at hcall
  refine ⟨_,_,hcall,fun B w ys hr=> ?_,fun B w y hr=>by rw [a4];exact hr⟩
  obtain ⟨y,zs,rfl,q1,q2⟩:=hr
  exact ⟨y,_,rfl,norm_row a1 q1,q2⟩
 ·cases h
end
end Go.Proofs.YtamcpiicmfielaaGreat.L
namespace Go.Proofs.YtamcpiicmfielaaGreat.L
open Go Go.V Go.RowKit Go.Proofs.YtamcpiicmfielaaGreat.Sp Go.Proofs.YtamcpiicmfielaaGreat.F Go.Proofs.YtamcpiicmfielaaGreatW.PrintWords
open Go.Proofs (Tryz.prog)
noncomputable section
def EAd:Env:= ⟨addC 175 tAdd32 noC,Kall,noL⟩
theorem EAd_ok:Meets Tryz.prog EAd.C:=(meets_none _).add eAdd32
abbrev p_gs:List Bool:= [false,false,true,true,true,true]
def sh_gs (us:List Int) (vs:List Int) (i:Int) (k:Int) (g:Int) (r:Int) (qs:List Int):List AV:=slots 194 [(0, .sl false 129 0 0 us.length),(1, .lst false 129 vs.length (lim vs)),(2, .val (.int .i64 i)),(7, .val (.int .i64 k)),(9, .val (.int .u64 g)),(10, .val (.int .u64 r))]
def hp_gs (us:List Int) (vs:List Int) (i:Int) (k:Int) (g:Int) (r:Int) (qs:List Int):Hp:= [.row (.ints .u32 us) 129 .live, .row (.ints .u32 qs) 129 .live]
theorem body_gs:subC Tryz.prog 172 p_gs=some (.loop (lb 172 p_gs)):=by kernel_rfl
theorem code_gs:subC Tryz.prog 172 (false :: p_gs)=some (lb 172 p_gs):=by kernel_rfl
theorem round_gs (us:List Int) (vs:List Int) (i:Int) (k:Int) (g:Int) (r:Int) (qs:List Int):letI q_2:=(IntKind.u64.wrap (r+vs.getD (k - (1:Int)).toNat (0:Int)));letI q_3:=(IntKind.u64.wrap (g - (1:Int)));letI q_1:Option (Ex×List AV×Hp):=(bif inR IntKind.i64 (k - (1:Int)) then (bif decide ((0:Int)≤k - (1:Int))&&decide (k - (1:Int) < (↑vs.length:Int)) then (bif inR IntKind.u64 (vs.getD (k - (1:Int)).toNat (0:Int)) then (bif decide ((0:Int) < q_2.fdiv (4294967296:Int)) then (bif decide (q_3.fdiv (4294967296:Int)=(0:Int)) then some ((.exit 0),slots 194 [(0,(.sl false 129 0 0 us.length)),(1,(.lst false 129 vs.length (lim vs))),(2,(.val (.int .i64 i))),(7,(.val (.int .i64 k))),(9,(.val (.int .u64 q_3))),(10,(.val (.int .u64 q_2)))], [(.row (.ints .u32 us) 129 .live),(.row (.ints .u32 qs) 129 .live)]) else some (.normal,slots 194 [(0,(.sl false 129 0 0 us.length)),(1,(.lst false 129 vs.length (lim vs))),(2,(.val (.int .i64 i))),(7,(.val (.int .i64 k))),(9,(.val (.int .u64 q_3))),(10,(.val (.int .u64 q_2)))], [(.row (.ints .u32 us) 129 .live),(.row (.ints .u32 qs) 129 .live)])) else some (.normal,slots 194 [(0,(.sl false 129 0 0 us.length)),(1,(.lst false 129 vs.length (lim vs))),(2,(.val (.int .i64 i))),(7,(.val (.int .i64 k))),(9,(.val (.int .u64 q_3))),(10,(.val (.int .u64 q_2)))], [(.row (.ints .u32 us) 129 .live),(.row (.ints .u32 qs) 129 .live)])) else none) else none) else none);
  (roundB Tryz.prog EL0 2 172 [0,1,2,7,9,10] (lb 172 p_gs) (false :: p_gs) (sh_gs us vs i k g r qs) (hp_gs us vs i k g r qs)=(bif decide ((0:Int) < g.fdiv (4294967296:Int)) then q_1 else (bif decide (r.fdiv (4294967296:Int)=(0:Int)) then (bif inR IntKind.i64 (k - (2:Int)) then (bif decide ((0:Int)≤k - (2:Int))&&decide (k - (2:Int) < (↑vs.length:Int)) then (bif inR IntKind.u64 (vs.getD (k - (2:Int)).toNat (0:Int)) then (bif inR IntKind.i64 (i+k) then (bif inR IntKind.i64 (i+k - (2:Int)) then (bif decide ((0:Int)≤i+k - (2:Int))&&decide (i+k - (2:Int) < (↑us.length:Int)) then (bif decide ((0:Nat)+(i+k - (2:Int)).toNat*(1:Nat) < us.length) then (bif inR IntKind.u64 (us.getD ((0:Nat)+(i+k - (2:Int)).toNat*(1:Nat)) (0:Int)) then (bif decide (bitI BinOp.or IntKind.u64 (IntKind.u64.wrap (r*(4294967296:Int))) (us.getD ((0:Nat)+(i+k - (2:Int)).toNat*(1:Nat)) (0:Int)) < IntKind.u64.wrap (g*vs.getD (k - (2:Int)).toNat (0:Int))) then q_1 else some ((.exit 0),slots 194 [(0,(.sl false 129 0 0 us.length)),(1,(.lst false 129 vs.length (lim vs))),(2,(.val (.int .i64 i))),(7,(.val (.int .i64 k))),(9,(.val (.int .u64 g))),(10,(.val (.int .u64 r)))], [(.row (.ints .u32 us) 129 .live),(.row (.ints .u32 qs) 129 .live)])) else none) else none) else none) else none) else none) else none) else none) else none) else some ((.exit 0),slots 194 [(0,(.sl false 129 0 0 us.length)),(1,(.lst false 129 vs.length (lim vs))),(2,(.val (.int .i64 i))),(7,(.val (.int .i64 k))),(9,(.val (.int .u64 g))),(10,(.val (.int .u64 r)))], [(.row (.ints .u32 us) 129 .live),(.row (.ints .u32 qs) 129 .live)])))):=by kernel_rfl
theorem step_gs {us:List Int} {vs:List Int} {i:Int} {k:Int} {g:Int} {r:Int} {qs:List Int} {e:Ex} {T:List AV} {H:Hp} (h:roundB Tryz.prog EL0 2 172 [0,1,2,7,9,10] (lb 172 p_gs) (false :: p_gs) (sh_gs us vs i k g r qs) (hp_gs us vs i k g r qs)=some (e,T,H)):V.Ends Tryz.prog false 2 0 (lb 172 p_gs) (sh_gs us vs i k g r qs) (hp_gs us vs i k g r qs) e T H:=
 round_endsB (meets_none _) loops_none mixed code_gs h
def digQ (us vs:List Int) (i:Nat):Nat:=vL us / (4294967296 ^ i*vL vs)
def pre_gs (us vs:List Int) (i k g r:Int) (qs:List Int):Prop:=∃ I x0 x1 v1:Nat,i=I∧k=vs.length∧okL us∧okL vs∧2≤vs.length∧I+vs.length < us.length∧us.length≤17592186044416∧vs.getD (vs.length - 1) 0=v1∧2147483648≤v1∧
 vL us < 4294967296 ^ (I+1)*vL vs∧us.getD (I+vs.length) 0=x0∧us.getD (I+vs.length - 1) 0=x1∧g=((x0*4294967296+x1) / v1:Nat)∧r=((x0*4294967296+x1) % v1:Nat)
def post_gs (us vs:List Int) (i k g r:Int) (qs:List Int) (ρ:Int×Int):Prop:=∃ g':Nat,ρ.1=g'∧digQ us vs i.toNat≤g'∧g'≤digQ us vs i.toNat+1∧g' < 4294967296
theorem gs_go (us vs:List Int) (qs:List Int) (i:Nat) (hb:i+vs.length < us.length) (hbu:us.length≤17592186044416) (hk:2≤vs.length) (u2 v1 v2:Nat) (hu2:u2 < 4294967296) (hv1:v1 < 4294967296) (hv1':1≤v1) (hv2:v2 < 4294967296)
  (eu:us.getD (i+vs.length - 2) 0=(u2:Int)) (ev1:vs.getD (vs.length - 1) 0=(v1:Int)) (ev2:vs.getD (vs.length - 2) 0=(v2:Int))
  (P X Y top:Nat) (hX:X < P) (hY:Y < P) (htop:top < 18446744073709551616) (q:Nat) (hqB:q < 4294967296) (hq1:q*(Y+P*(v1*4294967296+v2))≤X+P*(top*4294967296+u2)) (hq2:X+P*(top*4294967296+u2) < (q+1)*(Y+P*(v1*4294967296+v2))) (n:Nat):
  ∀ g r:Nat,g=n→g*v1+r=top→q≤g→∃ ρ:Int×Int,LoopToB Tryz.prog 2 (lb 172 p_gs) (sh_gs us vs i vs.length g r qs) (hp_gs us vs i vs.length g r qs) (.exit 0) (sh_gs us vs i vs.length ρ.1 ρ.2 qs) (hp_gs us vs i vs.length ρ.1 ρ.2 qs)∧∃ g':Nat,ρ.1=g'∧q≤g'∧g'≤q+1∧g' < 4294967296:=by
 have hpos:0 < Y+P*(v1*4294967296+v2):=by
  have:P*1≤P*(v1*4294967296+v2):=Nat.mul_le_mul_left P (by omega)
  omega
 have out:∀ g r:Nat,g < 4294967296→g*v1+r=top→g*v2≤r*4294967296+u2→g≤q+1:=by
  intro g r h1 h2 h3
  have h4:=g_ge (X:=X) hY hv1' h1 h2 h3
  rcases Nat.lt_or_ge (q+1) g with h5 | h5
  ·exfalso
   have h6:=Nat.mul_le_mul_right (Y+P*(v1*4294967296+v2)) h5
   rw [Nat.succ_mul] at h6
   omega
  ·exact h5
 have wide:∀ g r:Nat,g < 4294967296→4294967296≤r→g*v2≤r*4294967296+u2:=by
  intro g r h1 h2
  have h3:g*v2≤4294967296*4294967296:=Nat.mul_le_mul (by omega) (by omega)
  have h4:4294967296*4294967296≤r*4294967296:=Nat.mul_le_mul_right _ h2
  omega
 have down:∀ g r:Nat,g*v1+r=top→(4294967296≤g∨r*4294967296+u2 < g*v2)→q+1≤g:=by
  intro g r h1 h2
  rcases h2 with h2 | h2
  ·omega
  ·have h3:=g_lt (Y:=Y) hX h1 h2
   rcases Nat.lt_or_ge q g with h4 | h4
   ·exact h4
   ·exfalso
    have:=Nat.mul_le_mul_right (Y+P*(v1*4294967296+v2)) h4
    omega
 clear hq1 hq2 hpos
 have e1:(vs.length:Int) - 1=((vs.length - 1:Nat):Int):=by omega
 have e2:(vs.length:Int) - 2=((vs.length - 2:Nat):Int):=by omega
 have e3:(i:Int)+(vs.length:Int)=((i+vs.length:Nat):Int):=by omega
 have e4:((i+vs.length:Nat):Int) - 2=((i+vs.length - 2:Nat):Int):=by omega
 have l1:inR .i64 ((vs.length - 1:Nat):Int)=true:=i64L _ (by omega)
 have l2:inR .i64 ((vs.length - 2:Nat):Int)=true:=i64L _ (by omega)
 have l3:inR .i64 ((i+vs.length:Nat):Int)=true:=i64L _ (by omega)
 have l4:inR .i64 ((i+vs.length - 2:Nat):Int)=true:=i64L _ (by omega)
 have b1:decide ((0:Int)≤((vs.length - 1:Nat):Int))=true:=dT (by omega)
 have b2:decide ((0:Int)≤((vs.length - 2:Nat):Int))=true:=dT (by omega)
 have b3:decide ((0:Int)≤((i+vs.length - 2:Nat):Int))=true:=dT (by omega)
 have b4:decide (((vs.length - 1:Nat):Int) < (vs.length:Int))=true:=dT (by omega)
 have b5:decide (((vs.length - 2:Nat):Int) < (vs.length:Int))=true:=dT (by omega)
 have b6:decide (((i+vs.length - 2:Nat):Int) < (us.length:Int))=true:=dT (by omega)
 have b7:decide (i+vs.length - 2 < us.length)=true:=dT (by omega)
 have c1:inR .u64 (v1:Int)=true:=u64T (by omega)
 have c2:inR .u64 (v2:Int)=true:=u64T (by omega)
 have c3:inR .u64 (u2:Int)=true:=u64T (by omega)
 have rnd:∀ g r:Nat,_:=fun g r=>round_gs us vs i vs.length g r qs
 simp only [e1,e2,e3,e4,Int.toNat_natCast,Nat.zero_add,Nat.mul_one,l1,l2,l3,l4,b1,b2,b3,b4,b5,b6,b7,ev1,ev2,eu,c1,c2,c3,fdiv32] at rnd
 clear e1 e2 e3 e4 l1 l2 l3 l4 b1 b2 b3 b4 b5 b6 b7 c1 c2 c3
 induction n with
 | zero=>
  intro g r hn hg hq
  subst hn
  have hr:=rnd 0 r
  rw [dF (show ¬ (0:Int) < ((0 / 4294967296:Nat):Int) by omega)] at hr
  refine ⟨((0:Nat),(r:Int)), .last (step_gs ?_) (by intro h;cases h),0,rfl,hq,by omega,by omega⟩
  by_cases hr32:((r / 4294967296:Nat):Int)=0
  ·have hrB:r < 4294967296:=by omega
   rw [dT hr32,join64 r u2 hrB hu2,← Int.natCast_mul,Nat.zero_mul,u64n (a:=0) (by omega),dF (show ¬ ((r*4294967296+u2:Nat):Int) < ((0:Nat):Int) by omega)] at hr
   rw [hr];rfl
  ·rw [dF hr32] at hr
   rw [hr];rfl
 | succ n ih=>
  intro g r hn hg hq
  have hgv:n*v1+(r+v1)=top:=by rw [← hg,hn,Nat.succ_mul];omega
  have hg64:g < 18446744073709551616:=by
   have:=Nat.le_mul_of_pos_right g hv1'
   omega
  have hr:=rnd g r
  have w1:IntKind.u64.wrap ((g:Int) - 1)=((n:Nat):Int):=(u64w (by omega) (by omega)).trans (by omega)
  have body:q+1≤g→
    roundB Tryz.prog EL0 2 172 [0,1,2,7,9,10] (lb 172 p_gs) (false :: p_gs) (sh_gs us vs i vs.length g r qs) (hp_gs us vs i vs.length g r qs)=(bif decide ((0:Int) < (((r+v1) / 4294967296:Nat):Int)) then bif decide (((n / 4294967296:Nat):Int)=0) then some (.exit 0,sh_gs us vs i vs.length n ((r+v1:Nat):Int) qs,hp_gs us vs i vs.length n ((r+v1:Nat):Int) qs) else some (.normal,sh_gs us vs i vs.length n ((r+v1:Nat):Int) qs,hp_gs us vs i vs.length n ((r+v1:Nat):Int) qs) else some (.normal,sh_gs us vs i vs.length n ((r+v1:Nat):Int) qs,hp_gs us vs i vs.length n ((r+v1:Nat):Int) qs))→
    ∃ ρ:Int×Int,LoopToB Tryz.prog 2 (lb 172 p_gs) (sh_gs us vs i vs.length g r qs) (hp_gs us vs i vs.length g r qs) (.exit 0) (sh_gs us vs i vs.length ρ.1 ρ.2 qs) (hp_gs us vs i vs.length ρ.1 ρ.2 qs)∧∃ g':Nat,ρ.1=g'∧q≤g'∧g'≤q+1∧g' < 4294967296:=by
   intro hq3 hbd
   by_cases hc:4294967296≤r+v1∧n < 4294967296
   ·rw [dT (show (0:Int) < (((r+v1) / 4294967296:Nat):Int) by omega),dT (show ((n / 4294967296:Nat):Int)=0 by omega)] at hbd
    exact ⟨((n:Int),((r+v1:Nat):Int)), .last (step_gs hbd) (by intro h;cases h),n,rfl,by omega,out n (r+v1) hc.2 hgv (wide _ _ hc.2 hc.1),hc.2⟩
   ·obtain ⟨ρ,h1,h2⟩:=ih n (r+v1) rfl hgv (by omega)
    refine ⟨ρ, .more (step_gs ?_) h1,h2⟩
    rw [hbd]
    by_cases hc2:(0:Int) < (((r+v1) / 4294967296:Nat):Int)
    ·rw [dT hc2,dF (show ¬ ((n / 4294967296:Nat):Int)=0 by omega)]
     rfl
    ·rw [dF hc2]
     rfl
  have hbody:q+1≤g→IntKind.u64.wrap ((r:Int)+v1)=((r+v1:Nat):Int):=fun h=>by
   rw [← Int.natCast_add,u64n]
   omega
  by_cases h32:4294967296≤g
  ·have hq3:=down g r hg (.inl h32)
   rw [dT (show (0:Int) < ((g / 4294967296:Nat):Int) by omega),w1,hbody hq3,fdiv32,fdiv32] at hr
   exact body hq3 hr
  ·rw [dF (show ¬ (0:Int) < ((g / 4294967296:Nat):Int) by omega)] at hr
   by_cases hr32:4294967296≤r
   ·rw [dF (show ¬ ((r / 4294967296:Nat):Int)=0 by omega)] at hr
    exact ⟨((g:Int),(r:Int)), .last (step_gs hr) (by intro h;cases h),g,rfl,hq,out g r (by omega) hg (wide g r (by omega) hr32),by omega⟩
   ·have hg32:g < 4294967296:=by omega
    have hr33:r < 4294967296:=by omega
    have hgv2:g*v2≤4294967295*4294967295:=Nat.mul_le_mul (by omega) (by omega)
    rw [dT (show ((r / 4294967296:Nat):Int)=0 by omega),join64 r u2 hr33 hu2,← Int.natCast_mul g v2,u64n (a:=g*v2) (by omega)] at hr
    by_cases hc:r*4294967296+u2 < g*v2
    ·have hq3:=down g r hg (.inr hc)
     rw [dT (show ((r*4294967296+u2:Nat):Int) < ((g*v2:Nat):Int) by omega),w1,hbody hq3,fdiv32,fdiv32] at hr
     exact body hq3 hr
    ·rw [dF (show ¬ ((r*4294967296+u2:Nat):Int) < ((g*v2:Nat):Int) by omega)] at hr
     exact ⟨((g:Int),(r:Int)), .last (step_gs hr) (by intro h;cases h),g,rfl,hq,out g r (by omega) hg (by omega),by omega⟩
theorem loop_gs (us vs:List Int) (i k g r:Int) (qs:List Int) (h:pre_gs us vs i k g r qs):∃ ρ:Int×Int,LoopToB Tryz.prog 2 (lb 172 p_gs) (sh_gs us vs i k g r qs) (hp_gs us vs i k g r qs) (.exit 0) (sh_gs us vs i k ρ.1 ρ.2 qs) (hp_gs us vs i k ρ.1 ρ.2 qs)∧post_gs us vs i k g r qs ρ:=by
 obtain ⟨i,x0,x1,v1,rfl,rfl,hu,hv,hk,hi,hb,ev1,hv1n,hlt,r0,r1,rfl,rfl⟩:=h
 have hlen1:vs.length - 1 < vs.length:=by omega
 have hlen2:vs.length - 2 < vs.length:=by omega
 have hu0:i+vs.length < us.length:=hi
 have hu1:i+vs.length - 1 < us.length:=by omega
 have hu2:i+vs.length - 2 < us.length:=by omega
 have hid:i+vs.length+1≤us.length:=by omega
 obtain ⟨x0',hx0,ex0,r0'⟩:=getD_limb hu _ hu0
 obtain ⟨x1',hx1,ex1,r1'⟩:=getD_limb hu _ hu1
 obtain ⟨x2,hx2,ex2,r2⟩:=getD_limb hu _ hu2
 obtain ⟨v2,hv2,ev2',ev2⟩:=getD_limb hv _ hlen2
 obtain ⟨v1',hv1,ev1',ev1''⟩:=getD_limb hv _ hlen1
 obtain rfl:x0'=x0:=by rw [r0'] at r0;exact Int.ofNat.inj r0
 obtain rfl:x1'=x1:=by rw [r1'] at r1;exact Int.ofNat.inj r1
 obtain rfl:v1'=v1:=by rw [ev1''] at ev1;exact Int.ofNat.inj ev1
 have hVlt:=vL_lt hv
 have hz:vL (us.drop (i+vs.length+1))=0:=by
  refine vL_high _ hid (Nat.lt_of_lt_of_le hlt ?_)
  rw [show i+vs.length+1=(i+1)+vs.length by omega,Nat.pow_add 4294967296 (i+1) vs.length]
  exact Nat.mul_le_mul_left _ (Nat.le_of_lt hVlt)
 have hud:vL (us.drop (i+vs.length - 2))=(x0'*4294967296+x1')*4294967296+x2:=by
  rw [List.drop_eq_getElem_cons hu2,ex2,vL_cons,show i+vs.length - 2+1=i+vs.length - 1 by omega,List.drop_eq_getElem_cons hu1,ex1,vL_cons,show i+vs.length - 1+1=i+vs.length by omega,List.drop_eq_getElem_cons hu0,ex0,vL_cons,hz]
  simp only [Int.toNat_natCast]
  omega
 have hvd:vL (vs.drop (vs.length - 2))=v1'*4294967296+v2:=by
  rw [List.drop_eq_getElem_cons hlen2,ev2',vL_cons,show vs.length - 2+1=vs.length - 1 by omega,List.drop_eq_getElem_cons hlen1,ev1',vL_cons,List.drop_of_length_le (by omega),vL_nil]
  simp only [Int.toNat_natCast]
  omega
 have hU:=vL_take_add us (i+vs.length - 2) (by omega)
 rw [hud] at hU
 have hX:=vL_lt (okL_take hu (i+vs.length - 2))
 rw [List.length_take,Nat.min_eq_left (by omega)] at hX
 have hV:=vL_take_add vs (vs.length - 2) (by omega)
 rw [hvd] at hV
 have hYv:=vL_lt (okL_take hv (vs.length - 2))
 rw [List.length_take,Nat.min_eq_left (by omega)] at hYv
 have hPe:4294967296 ^ (i+vs.length - 2)=4294967296 ^ i*4294967296 ^ (vs.length - 2):=by rw [← Nat.pow_add];exact congrArg (4294967296 ^ ·) (by omega)
 have hY:4294967296 ^ i*vL (vs.take (vs.length - 2)) < 4294967296 ^ (i+vs.length - 2):=by
  rw [hPe];exact Nat.mul_lt_mul_of_pos_left hYv (Nat.pow_pos (by decide))
 have hVV:4294967296 ^ i*vL vs=4294967296 ^ i*vL (vs.take (vs.length - 2))+4294967296 ^ (i+vs.length - 2)*(v1'*4294967296+v2):=by
  rw [hPe,Nat.mul_assoc,← Nat.mul_add,← hV]
 have hVpos:0 < 4294967296 ^ i*vL vs:=by
  rcases Nat.eq_zero_or_pos (vL vs) with h | h
  ·rw [h,Nat.mul_zero] at hlt;omega
  ·exact Nat.mul_pos (Nat.pow_pos (by decide)) h
 have htop:x0'*4294967296+x1' < 18446744073709551616:=by omega
 have hq1:vL us / (4294967296 ^ i*vL vs)*(4294967296 ^ i*vL vs)≤vL us:=Nat.div_mul_le_self _ _
 have hq2:vL us < (vL us / (4294967296 ^ i*vL vs)+1)*(4294967296 ^ i*vL vs):=by
  rw [Nat.add_mul,Nat.one_mul]
  exact Nat.lt_div_mul_add hVpos
 have hqB:vL us / (4294967296 ^ i*vL vs) < 4294967296:=by
  rw [Nat.div_lt_iff_lt_mul hVpos,← Nat.mul_assoc,Nat.mul_comm 4294967296,← Nat.pow_succ]
  exact hlt
 unfold post_gs digQ
 rw [Int.toNat_natCast]
 have hgs:=g_start (P:=4294967296 ^ (i+vs.length - 2)) (X:=vL (us.take (i+vs.length - 2))) (Y:=4294967296 ^ i*vL (vs.take (vs.length - 2))) (v2:=v2) hX hx2 (show 1≤v1' by omega) (by rw [← hU,← hVV];exact hq1)
 exact gs_go us vs qs i hi hb hk x2 v1' v2 hx2 hv1 (by omega) hv2 r2 ev1 ev2 (4294967296 ^ (i+vs.length - 2)) (vL (us.take (i+vs.length - 2))) (4294967296 ^ i*vL (vs.take (vs.length - 2))) (x0'*4294967296+x1') hX hY htop _ hqB (by rw [← hU,← hVV];exact hq1) (by rw [← hU,← hVV];exact hq2) _ _ ((x0'*4294967296+x1') % v1') rfl (by rw [Nat.mul_comm];exact Nat.div_add_mod _ _) hgs
def told_gs (κ:List Int→List Int→Int→Int→Int→Int→List Int→Bool) (φ:List Int→List Int→Int→Int→Int→Int→List Int→Int×Int) (T:List AV) (H:Hp):Option (Bool×Ex×List AV×Hp):=
 match lget T 0,lget T 1,lget T 2,lget T 7,lget T 9,lget T 10,H with
 | .sl false 129 0 0 m_us, .lst false 129 m_vs f_vs, .val (.int .i64 i), .val (.int .i64 k), .val (.int .u64 g), .val (.int .u64 r), [.row (.ints .u32 us) 129 .live, .row (.ints .u32 qs) 129 .live]=>bif T.length==194 then some (okB m_vs f_vs&&decide (m_us=us.length)&&κ us (rowOf m_vs f_vs) i k g r qs, .exit 0,sh_gs us (rowOf m_vs f_vs) i k ((φ us (rowOf m_vs f_vs) i k g r qs).1) ((φ us (rowOf m_vs f_vs) i k g r qs).2) qs,hp_gs us (rowOf m_vs f_vs) i k ((φ us (rowOf m_vs f_vs) i k g r qs).1) ((φ us (rowOf m_vs f_vs) i k g r qs).2) qs) else none
 | _,_,_,_,_,_,_=>none
abbrev KT_gs:Type:=List Int→List Int→Int→Int→Int→Int→List Int→Bool
abbrev FT_gs:Type:=List Int→List Int→Int→Int→Int→Int→List Int→Int×Int
def LL_gs (κ:KT_gs) (φ:FT_gs) (L:LTab):LTab:=addLn 2 172 p_gs [0,1,2,7,9,10] (told_gs κ φ) L
def phi_gs (us:List Int) (vs:List Int) (i:Int) (k:Int) (g:Int) (r:Int) (qs:List Int):Int×Int:=Classical.epsilon fun ρ=>LoopToB Tryz.prog 2 (lb 172 p_gs) (sh_gs us vs i k g r qs) (hp_gs us vs i k g r qs) (.exit 0) (sh_gs us vs i k (ρ.1) (ρ.2) qs) (hp_gs us vs i k (ρ.1) (ρ.2) qs)∧post_gs us vs i k g r qs ρ
theorem phi_gs_spec (us:List Int) (vs:List Int) (i:Int) (k:Int) (g:Int) (r:Int) (qs:List Int) (h:pre_gs us vs i k g r qs):LoopToB Tryz.prog 2 (lb 172 p_gs) (sh_gs us vs i k g r qs) (hp_gs us vs i k g r qs) (.exit 0) (sh_gs us vs i k ((phi_gs us vs i k g r qs).1) ((phi_gs us vs i k g r qs).2) qs) (hp_gs us vs i k ((phi_gs us vs i k g r qs).1) ((phi_gs us vs i k g r qs).2) qs)∧post_gs us vs i k g r qs (phi_gs us vs i k g r qs):=Classical.epsilon_spec (loop_gs us vs i k g r qs h)
def cond_gs (us:List Int) (vs:List Int) (i:Int) (k:Int) (g:Int) (r:Int) (qs:List Int):Bool:= @decide (pre_gs us vs i k g r qs) (Classical.propDecidable _)
theorem cond_gs_eq (us:List Int) (vs:List Int) (i:Int) (k:Int) (g:Int) (r:Int) (qs:List Int) (h:pre_gs us vs i k g r qs):cond_gs us vs i k g r qs=true:= @decide_eq_true _ (Classical.propDecidable _) h
theorem told_gs_ok (T:List AV) (H:Hp) (e:Ex) (T1:List AV) (H1:Hp) (h:told_gs cond_gs phi_gs T H=some (true,e,T1,H1)):V.Ends Tryz.prog false 2 0 (.loop (lb 172 p_gs)) T H e T1 H1:=by
 unfold told_gs at h
 split at h
 ·rename_i m_us m_vs f_vs i k g r us qs h0 h1 h2 h7 h9 h10
  rw [Bool.cond_eq_ite] at h
  split at h
  ·rename_i hlen
   rw [beq_iff_eq] at hlen
   simp only [Option.some.injEq,Prod.mk.injEq,Bool.and_eq_true,decide_eq_true_eq] at h
   obtain ⟨⟨⟨k1,k2⟩,k3⟩,rfl,rfl,rfl⟩:=h
   have kc:= @of_decide_eq_true _ (Classical.propDecidable _) k3
   refine Ends.pre (phi_gs_spec us (rowOf m_vs f_vs) i k g r qs kc).1.ends (fun α B w D ys hr=>slots_rel hlen (fun p hp y hy=> ?_) hr)
   simp only [List.mem_cons,List.not_mem_nil,or_false] at hp
   rcases hp with rfl | rfl | rfl | rfl | rfl | rfl
   ·rw [h0] at hy;rw [← k2];exact hy
   ·rw [h1] at hy;rw [rowOf_len];exact row_norm cells129 k1 hy
   ·rw [h2] at hy;exact hy
   ·rw [h7] at hy;exact hy
   ·rw [h9] at hy;exact hy
   ·rw [h10] at hy;exact hy
  ·cases h
 ·cases h
theorem LL_gs_ok {L:LTab} (h:LOk Tryz.prog L):LOk Tryz.prog (LL_gs cond_gs phi_gs L):=h.add2n body_gs told_gs_ok
end
end Go.Proofs.YtamcpiicmfielaaGreat.L
namespace Go.Proofs.YtamcpiicmfielaaGreat.L
open Go Go.V Go.RowKit Go.Proofs.YtamcpiicmfielaaGreat.Sp Go.Proofs.YtamcpiicmfielaaGreat.F Go.Proofs.YtamcpiicmfielaaGreatW.PrintWords
open Go.Proofs (Tryz.prog)
noncomputable section
abbrev p_ms:List Bool:= [false,true,false,true,true,true,true,true,true]
def sh_ms (us:List Int) (vs:List Int) (i:Int) (k:Int) (g:Int) (c:Int) (b:Int) (ws:List Int) (n:Int) (j:Int) (qs:List Int):List AV:=slots 194 [(0, .sl false 129 0 0 us.length),(1, .lst false 129 vs.length (lim vs)),(2, .val (.int .i64 i)),(7, .val (.int .i64 k)),(9, .val (.int .u64 g)),(11, .val (.int .u64 c)),(12, .val (.int .u32 b)),(101, .lst false 129 ws.length (lim ws)),(102, .val (.int .i64 n)),(103, .val (.int .i64 j))]
def hp_ms (us:List Int) (vs:List Int) (i:Int) (k:Int) (g:Int) (c:Int) (b:Int) (ws:List Int) (n:Int) (j:Int) (qs:List Int):Hp:= [.row (.ints .u32 us) 129 .live, .row (.ints .u32 qs) 129 .live]
theorem body_ms:subC Tryz.prog 172 p_ms=some (.loop (lb 172 p_ms)):=by kernel_rfl
theorem code_ms:subC Tryz.prog 172 (false :: p_ms)=some (lb 172 p_ms):=by kernel_rfl
theorem round_ms (us:List Int) (vs:List Int) (i:Int) (k:Int) (g:Int) (c:Int) (b:Int) (ws:List Int) (n:Int) (j:Int) (qs:List Int):letI q_1:=(IntKind.u64.wrap (c+IntKind.u64.wrap (g*ws.getD j.toNat (0:Int))));letI q_2:=((0:Nat)+(i+j).toNat*(1:Nat));
  (roundB Tryz.prog E32 2 172 [0,1,2,7,9,11,12,101,102,103] (lb 172 p_ms) (false :: p_ms) (sh_ms us vs i k g c b ws n j qs) (hp_ms us vs i k g c b ws n j qs)=(bif decide (j < n) then (bif decide ((0:Int)≤j)&&decide (j < (↑ws.length:Int)) then (bif inR IntKind.u64 (ws.getD j.toNat (0:Int)) then (bif inR IntKind.i64 (i+j) then (bif inR IntKind.i64 (i+j) then (bif decide ((0:Int)≤i+j)&&decide (i+j < (↑us.length:Int)) then (bif decide ((0:Nat)+(i+j).toNat*(1:Nat) < us.length) then (bif inU (us.getD q_2 (0:Int))&&inU (IntKind.u32.wrap q_1)&&decide ((0:Int)≤b)&&decide (b≤(1:Int)) then (bif decide ((0:Int)≤i+j)&&decide (i+j < (↑us.length:Int)) then (bif decide ((0:Nat)+(i+j).toNat*(1:Nat) < us.length) then (bif inR IntKind.i64 (j+(1:Int)) then some (.normal,slots 194 [(0,(.sl false 129 0 0 us.length)),(1,(.lst false 129 vs.length (lim vs))),(2,(.val (.int .i64 i))),(7,(.val (.int .i64 k))),(9,(.val (.int .u64 g))),(11,(.val (.int .u64 (q_1.fdiv (4294967296:Int))))),(12,(.val (.int .u32 (if us.getD q_2 (0:Int) < IntKind.u32.wrap q_1+b then (1:Int) else (0:Int))))),(101,(.lst false 129 ws.length (lim ws))),(102,(.val (.int .i64 n))),(103,(.val (.int .i64 (j+(1:Int)))))], [(.row (.ints .u32 (us.set q_2 ((us.getD q_2 (0:Int)+(8589934592:Int) - IntKind.u32.wrap q_1 - b) % (4294967296:Int)))) 129 .live),(.row (.ints .u32 qs) 129 .live)]) else none) else none) else none) else none) else none) else none) else none) else none) else none) else none) else some ((.exit 2),slots 194 [(0,(.sl false 129 0 0 us.length)),(1,(.lst false 129 vs.length (lim vs))),(2,(.val (.int .i64 i))),(7,(.val (.int .i64 k))),(9,(.val (.int .u64 g))),(11,(.val (.int .u64 c))),(12,(.val (.int .u32 b))),(101,(.lst false 129 ws.length (lim ws))),(102,(.val (.int .i64 n))),(103,(.val (.int .i64 j)))], [(.row (.ints .u32 us) 129 .live),(.row (.ints .u32 qs) 129 .live)]))):=by kernel_rfl
theorem step_ms {us:List Int} {vs:List Int} {i:Int} {k:Int} {g:Int} {c:Int} {b:Int} {ws:List Int} {n:Int} {j:Int} {qs:List Int} {e:Ex} {T:List AV} {H:Hp} (h:roundB Tryz.prog E32 2 172 [0,1,2,7,9,11,12,101,102,103] (lb 172 p_ms) (false :: p_ms) (sh_ms us vs i k g c b ws n j qs) (hp_ms us vs i k g c b ws n j qs)=some (e,T,H)):V.Ends Tryz.prog false 2 0 (lb 172 p_ms) (sh_ms us vs i k g c b ws n j qs) (hp_ms us vs i k g c b ws n j qs) e T H:=
 round_endsB E32_ok loops_none mixed code_ms h
def pre_ms (us vs:List Int) (i k g c b:Int) (ws:List Int) (n j:Int) (qs:List Int):Prop:=∃ I G:Nat,i=I∧g=G∧G < 4294967296∧okL us∧okL ws∧us.length≤17592186044416∧I+ws.length < us.length∧c=0∧b=0∧n=ws.length∧j=0
def post_ms (us vs:List Int) (i k g c b:Int) (ws:List Int) (n j:Int) (qs:List Int) (r:List Int×Int×Int×Int):Prop:=∃ c' b':Nat,r.2.1=c'∧r.2.2.1=b'∧c' < 4294967296∧b'≤1∧okL r.1∧r.1.length=us.length∧r.1.drop (i.toNat+ws.length)=us.drop (i.toNat+ws.length)∧vL r.1+4294967296 ^ i.toNat*(g.toNat*vL ws)=vL us+4294967296 ^ (i.toNat+ws.length)*(c'+b')
theorem ms_go (vs ws qs:List Int) (k:Int) (hv:okL ws) (i g:Nat) (hg:g < 4294967296) (d:Nat):∀ (j c b T:Nat) (us:List Int),j+d=ws.length→okL us→us.length≤17592186044416→i+ws.length < us.length→c < 4294967296→b≤1→
  Aside0 (vL us+4294967296 ^ i*(g*vL (ws.take j))=T+4294967296 ^ (i+j)*(c+b))→
  ∃ r:List Int×Int×Int×Int,LoopToB Tryz.prog 2 (lb 172 p_ms) (sh_ms us vs i k g c b ws ws.length j qs) (hp_ms us vs i k g c b ws ws.length j qs) (.exit 2) (sh_ms r.1 vs i k g r.2.1 r.2.2.1 ws ws.length r.2.2.2 qs) (hp_ms r.1 vs i k g r.2.1 r.2.2.1 ws ws.length r.2.2.2 qs)∧
   ∃ c' b':Nat,r.2.1=c'∧r.2.2.1=b'∧c' < 4294967296∧b'≤1∧okL r.1∧r.1.length=us.length∧r.1.drop (i+ws.length)=us.drop (i+ws.length)∧vL r.1+4294967296 ^ i*(g*vL ws)=T+4294967296 ^ (i+ws.length)*(c'+b'):=by
 induction d with
 | zero=>
  intro j c b T us hj hok hbu hiu hc hb hT
  have hj':j=ws.length:=by omega
  subst hj'
  refine ⟨(us,(c:Int),(b:Int),(ws.length:Int)), .last (step_ms ?_) (by intro h;cases h),c,b,rfl,rfl,hc,hb,hok,rfl,rfl, ?_⟩
  ·rw [round_ms,dF (show ¬ ((ws.length:Int) < ws.length) by omega)]
   rfl
  ·have:=hT.out
   rw [List.take_length] at this
   exact this
 | succ d ih=>
  intro j c b T us hj hok hbu hiu hc hb HT
  have hjv:j < ws.length:=by omega
  have hij:i+j < us.length:=by omega
  obtain ⟨y,hy,hey,hry⟩:=getD_limb hv j hjv
  obtain ⟨x,hx,hex,hrx⟩:=getD_limb hok (i+j) hij
  have HS:=Aside0.mk (vL_take_succ ws j hjv)
  rw [hey,Int.toNat_natCast] at HS
  have hgy:g*y≤4294967295*4294967295:=Nat.mul_le_mul (by omega) (by omega)
  have hc':(c+g*y) / 4294967296 < 4294967296:=by omega
  have hlo:(c+g*y) % 4294967296 < 4294967296:=Nat.mod_lt _ (by decide)
  have hD:(x+8589934592 - (c+g*y) % 4294967296 - b) % 4294967296+(c+g*y) % 4294967296+b=x+4294967296*(if x < (c+g*y) % 4294967296+b then 1 else 0):=by
   generalize (c+g*y) % 4294967296=z at*
   split <;> omega
  have eb:(if (x:Int) < (((c+g*y) % 4294967296:Nat):Int)+(b:Int) then (1:Int) else 0)=((if x < (c+g*y) % 4294967296+b then 1 else 0:Nat):Int):=by
   generalize (c+g*y) % 4294967296=z at*
   split <;> split <;> omega
  have ed:((x:Int)+8589934592 - (((c+g*y) % 4294967296:Nat):Int) - (b:Int)) % 4294967296=(((x+8589934592 - (c+g*y) % 4294967296 - b) % 4294967296:Nat):Int):=by
   generalize (c+g*y) % 4294967296=z at*
   omega
  have hb':(if x < (c+g*y) % 4294967296+b then 1 else 0:Nat)≤1:=by split <;> omega
  have hDlt:(x+8589934592 - (c+g*y) % 4294967296 - b) % 4294967296 < 4294967296:=Nat.mod_lt _ (by decide)
  have hr:=round_ms us vs i k g c b ws ws.length j qs
  have e1:(i:Int)+(j:Int)=((i+j:Nat):Int):=by omega
  rw [e1,Int.toNat_natCast,Int.toNat_natCast,Nat.zero_add,Nat.mul_one,hry,hrx,u64T (show 0≤(y:Int)∧(y:Int)≤18446744073709551615 by omega),i64L (i+j) (by omega),i64T (show -9223372036854775808≤(j:Int)+1∧(j:Int)+1≤9223372036854775807 by omega),dT (show (j:Int) < ws.length by omega),dT (show (0:Int)≤(j:Int) by omega),dT (show (0:Int)≤((i+j:Nat):Int) by omega),dT (show ((i+j:Nat):Int) < (us.length:Int) by omega),dT hij,
   ← Int.natCast_mul g y,u64n (a:=g*y) (by omega),← Int.natCast_add c (g*y),u64n (a:=c+g*y) (by omega),u32w,inU_in hx,inU_in hlo,dT (show (0:Int)≤(b:Int) by omega),dT (show (b:Int)≤1 by omega),fdiv32,eb,ed] at hr
  clear eb ed
  generalize hbb:(if x < (c+g*y) % 4294967296+b then 1 else 0:Nat)=b' at*
  generalize (x+8589934592 - (c+g*y) % 4294967296 - b) % 4294967296=D at*
  have HV:=Aside0.mk (vL_set us (i+j) hij (D:Int))
  rw [hex,Int.toNat_natCast,Int.toNat_natCast] at HV
  obtain ⟨r,h1,c2,b2,g1,g2,g3,g4,g5,g6,g7,g8⟩:=ih (j+1) ((c+g*y) / 4294967296) b' T (us.set (i+j) (D:Int)) (by omega) (okL_set hok _ _ (Int.natCast_nonneg _) (Int.ofNat_lt.2 hDlt)) (by rw [List.length_set];exact hbu) (by rw [List.length_set];exact hiu) hc' hb' (by
   have hT:=HT.out
   have hS:=HS.out
   have hV:=HV.out
   constructor
   rw [hS,show i+(j+1)=(i+j)+1 from rfl,Nat.pow_succ]
   have e1:4294967296 ^ i*(g*(vL (ws.take j)+4294967296 ^ j*y))=4294967296 ^ i*(g*vL (ws.take j))+4294967296 ^ (i+j)*(g*y):=by rw [Nat.pow_add];grind
   have e2:4294967296 ^ (i+j)*((c+g*y) % 4294967296)+4294967296 ^ (i+j)*4294967296*((c+g*y) / 4294967296)=4294967296 ^ (i+j)*(c+g*y):=by
    rw [Nat.mul_assoc,← Nat.mul_add,Nat.mod_add_div]
   have e3:=congrArg (4294967296 ^ (i+j)* ·) hD
   simp only [Nat.mul_add] at e1 e2 e3 hT ⊢
   rw [← Nat.mul_assoc] at e3
   generalize 4294967296 ^ i*(g*(4294967296 ^ j*y))=a6 at*
   generalize 4294967296 ^ (i+j)*((c+g*y) % 4294967296)=a1 at*
   generalize 4294967296 ^ (i+j)*4294967296*((c+g*y) / 4294967296)=a2 at*
   generalize 4294967296 ^ (i+j)*4294967296*b'=a3 at*
   generalize 4294967296 ^ (i+j)*(g*y)=a4 at*
   generalize 4294967296 ^ i*(g*vL (ws.take j))=a5 at*
   omega)
  refine ⟨r, .more (step_ms ?_) h1,c2,b2,g1,g2,g3,g4,g5,by rw [g6,List.length_set],by rw [g7,List.drop_set_of_lt (by omega)],g8⟩
  clear h1 g8 ih HT HS HV
  rw [hr]
  unfold sh_ms hp_ms
  rw [List.length_set]
  rfl
theorem loop_ms (us vs:List Int) (i k g c b:Int) (ws:List Int) (n j:Int) (qs:List Int) (h:pre_ms us vs i k g c b ws n j qs):∃ r:List Int×Int×Int×Int,LoopToB Tryz.prog 2 (lb 172 p_ms) (sh_ms us vs i k g c b ws n j qs) (hp_ms us vs i k g c b ws n j qs) (.exit 2) (sh_ms r.1 vs i k g r.2.1 r.2.2.1 ws n r.2.2.2 qs) (hp_ms r.1 vs i k g r.2.1 r.2.2.1 ws n r.2.2.2 qs)∧post_ms us vs i k g c b ws n j qs r:=by
 obtain ⟨i,g,rfl,rfl,hg,hu,hw,hb,hi,rfl,rfl,rfl,rfl⟩:=h
 unfold post_ms
 rw [Int.toNat_natCast,Int.toNat_natCast]
 exact ms_go vs ws qs k hw i g hg ws.length 0 0 0 (vL us) us (by omega) hu hb hi (by omega) (by omega) ⟨by rw [List.take_zero,vL_nil];simp⟩
def told_ms (κ:List Int→List Int→Int→Int→Int→Int→Int→List Int→Int→Int→List Int→Bool) (φ:List Int→List Int→Int→Int→Int→Int→Int→List Int→Int→Int→List Int→List Int×Int×Int×Int) (T:List AV) (H:Hp):Option (Bool×Ex×List AV×Hp):=
 match lget T 0,lget T 1,lget T 2,lget T 7,lget T 9,lget T 11,lget T 12,lget T 101,lget T 102,lget T 103,H with
 | .sl false 129 0 0 m_us, .lst false 129 m_vs f_vs, .val (.int .i64 i), .val (.int .i64 k), .val (.int .u64 g), .val (.int .u64 c), .val (.int .u32 b), .lst false 129 m_ws f_ws, .val (.int .i64 n), .val (.int .i64 j), [.row (.ints .u32 us) 129 .live, .row (.ints .u32 qs) 129 .live]=>bif T.length==194 then some (okB m_vs f_vs&&okB m_ws f_ws&&decide (m_us=us.length)&&κ us (rowOf m_vs f_vs) i k g c b (rowOf m_ws f_ws) n j qs, .exit 2,sh_ms ((φ us (rowOf m_vs f_vs) i k g c b (rowOf m_ws f_ws) n j qs).1) (rowOf m_vs f_vs) i k g ((φ us (rowOf m_vs f_vs) i k g c b (rowOf m_ws f_ws) n j qs).2.1) ((φ us (rowOf m_vs f_vs) i k g c b (rowOf m_ws f_ws) n j qs).2.2.1) (rowOf m_ws f_ws) n ((φ us (rowOf m_vs f_vs) i k g c b (rowOf m_ws f_ws) n j qs).2.2.2) qs,hp_ms ((φ us (rowOf m_vs f_vs) i k g c b (rowOf m_ws f_ws) n j qs).1) (rowOf m_vs f_vs) i k g ((φ us (rowOf m_vs f_vs) i k g c b (rowOf m_ws f_ws) n j qs).2.1) ((φ us (rowOf m_vs f_vs) i k g c b (rowOf m_ws f_ws) n j qs).2.2.1) (rowOf m_ws f_ws) n ((φ us (rowOf m_vs f_vs) i k g c b (rowOf m_ws f_ws) n j qs).2.2.2) qs) else none
 | _,_,_,_,_,_,_,_,_,_,_=>none
abbrev KT_ms:Type:=List Int→List Int→Int→Int→Int→Int→Int→List Int→Int→Int→List Int→Bool
abbrev FT_ms:Type:=List Int→List Int→Int→Int→Int→Int→Int→List Int→Int→Int→List Int→List Int×Int×Int×Int
def LL_ms (κ:KT_ms) (φ:FT_ms) (L:LTab):LTab:=addLn 2 172 p_ms [0,1,2,7,9,11,12,101,102,103] (told_ms κ φ) L
def phi_ms (us:List Int) (vs:List Int) (i:Int) (k:Int) (g:Int) (c:Int) (b:Int) (ws:List Int) (n:Int) (j:Int) (qs:List Int):List Int×Int×Int×Int:=Classical.epsilon fun ρ=>LoopToB Tryz.prog 2 (lb 172 p_ms) (sh_ms us vs i k g c b ws n j qs) (hp_ms us vs i k g c b ws n j qs) (.exit 2) (sh_ms (ρ.1) vs i k g (ρ.2.1) (ρ.2.2.1) ws n (ρ.2.2.2) qs) (hp_ms (ρ.1) vs i k g (ρ.2.1) (ρ.2.2.1) ws n (ρ.2.2.2) qs)∧post_ms us vs i k g c b ws n j qs ρ
theorem phi_ms_spec (us:List Int) (vs:List Int) (i:Int) (k:Int) (g:Int) (c:Int) (b:Int) (ws:List Int) (n:Int) (j:Int) (qs:List Int) (h:pre_ms us vs i k g c b ws n j qs):LoopToB Tryz.prog 2 (lb 172 p_ms) (sh_ms us vs i k g c b ws n j qs) (hp_ms us vs i k g c b ws n j qs) (.exit 2) (sh_ms ((phi_ms us vs i k g c b ws n j qs).1) vs i k g ((phi_ms us vs i k g c b ws n j qs).2.1) ((phi_ms us vs i k g c b ws n j qs).2.2.1) ws n ((phi_ms us vs i k g c b ws n j qs).2.2.2) qs) (hp_ms ((phi_ms us vs i k g c b ws n j qs).1) vs i k g ((phi_ms us vs i k g c b ws n j qs).2.1) ((phi_ms us vs i k g c b ws n j qs).2.2.1) ws n ((phi_ms us vs i k g c b ws n j qs).2.2.2) qs)∧post_ms us vs i k g c b ws n j qs (phi_ms us vs i k g c b ws n j qs):=Classical.epsilon_spec (loop_ms us vs i k g c b ws n j qs h)
def cond_ms (us:List Int) (vs:List Int) (i:Int) (k:Int) (g:Int) (c:Int) (b:Int) (ws:List Int) (n:Int) (j:Int) (qs:List Int):Bool:= @decide (pre_ms us vs i k g c b ws n j qs) (Classical.propDecidable _)
theorem cond_ms_eq (us:List Int) (vs:List Int) (i:Int) (k:Int) (g:Int) (c:Int) (b:Int) (ws:List Int) (n:Int) (j:Int) (qs:List Int) (h:pre_ms us vs i k g c b ws n j qs):cond_ms us vs i k g c b ws n j qs=true:= @decide_eq_true _ (Classical.propDecidable _) h
theorem told_ms_ok (T:List AV) (H:Hp) (e:Ex) (T1:List AV) (H1:Hp) (h:told_ms cond_ms phi_ms T H=some (true,e,T1,H1)):V.Ends Tryz.prog false 2 0 (.loop (lb 172 p_ms)) T H e T1 H1:=by
 unfold told_ms at h
 split at h
 ·rename_i m_us m_vs f_vs i k g c b m_ws f_ws n j us qs h0 h1 h2 h7 h9 h11 h12 h101 h102 h103
  rw [Bool.cond_eq_ite] at h
  split at h
  ·rename_i hlen
   rw [beq_iff_eq] at hlen
   simp only [Option.some.injEq,Prod.mk.injEq,Bool.and_eq_true,decide_eq_true_eq] at h
   obtain ⟨⟨⟨⟨k1,k2⟩,k3⟩,k4⟩,rfl,rfl,rfl⟩:=h
   have kc:= @of_decide_eq_true _ (Classical.propDecidable _) k4
   refine Ends.pre (phi_ms_spec us (rowOf m_vs f_vs) i k g c b (rowOf m_ws f_ws) n j qs kc).1.ends (fun α B w D ys hr=>slots_rel hlen (fun p hp y hy=> ?_) hr)
   simp only [List.mem_cons,List.not_mem_nil,or_false] at hp
   rcases hp with rfl | rfl | rfl | rfl | rfl | rfl | rfl | rfl | rfl | rfl
   ·rw [h0] at hy;rw [← k3];exact hy
   ·rw [h1] at hy;rw [rowOf_len];exact row_norm cells129 k1 hy
   ·rw [h2] at hy;exact hy
   ·rw [h7] at hy;exact hy
   ·rw [h9] at hy;exact hy
   ·rw [h11] at hy;exact hy
   ·rw [h12] at hy;exact hy
   ·rw [h101] at hy;rw [rowOf_len];exact row_norm cells129 k2 hy
   ·rw [h102] at hy;exact hy
   ·rw [h103] at hy;exact hy
  ·cases h
 ·cases h
theorem LL_ms_ok {L:LTab} (h:LOk Tryz.prog L):LOk Tryz.prog (LL_ms cond_ms phi_ms L):=h.add2n body_ms told_ms_ok
abbrev p_ab:List Bool:= [false,true,false,true,true,true,true,true,true,true,true,true,true]
def sh_ab (us:List Int) (vs:List Int) (i:Int) (k:Int) (g:Int) (s:Int) (ws:List Int) (n:Int) (j:Int) (qs:List Int):List AV:=slots 194 [(0, .sl false 129 0 0 us.length),(1, .lst false 129 vs.length (lim vs)),(2, .val (.int .i64 i)),(7, .val (.int .i64 k)),(9, .val (.int .u64 g)),(15, .val (.int .u32 s)),(157, .lst false 129 ws.length (lim ws)),(158, .val (.int .i64 n)),(159, .val (.int .i64 j))]
def hp_ab (us:List Int) (vs:List Int) (i:Int) (k:Int) (g:Int) (s:Int) (ws:List Int) (n:Int) (j:Int) (qs:List Int):Hp:= [.row (.ints .u32 us) 129 .live, .row (.ints .u32 qs) 129 .live]
theorem body_ab:subC Tryz.prog 172 p_ab=some (.loop (lb 172 p_ab)):=by kernel_rfl
theorem code_ab:subC Tryz.prog 172 (false :: p_ab)=some (lb 172 p_ab):=by kernel_rfl
theorem round_ab (us:List Int) (vs:List Int) (i:Int) (k:Int) (g:Int) (s:Int) (ws:List Int) (n:Int) (j:Int) (qs:List Int):letI q_1:=((0:Nat)+(i+j).toNat*(1:Nat));
  (roundB Tryz.prog EAd 2 172 [0,1,2,7,9,15,157,158,159] (lb 172 p_ab) (false :: p_ab) (sh_ab us vs i k g s ws n j qs) (hp_ab us vs i k g s ws n j qs)=(bif decide (j < n) then (bif decide ((0:Int)≤j)&&decide (j < (↑ws.length:Int)) then (bif inR IntKind.i64 (i+j) then (bif inR IntKind.i64 (i+j) then (bif decide ((0:Int)≤i+j)&&decide (i+j < (↑us.length:Int)) then (bif decide ((0:Nat)+(i+j).toNat*(1:Nat) < us.length) then (bif inU (us.getD q_1 (0:Int))&&inU (ws.getD j.toNat (0:Int))&&inU s&&decide (s≤(1:Int)) then (bif decide ((0:Int)≤i+j)&&decide (i+j < (↑us.length:Int)) then (bif decide ((0:Nat)+(i+j).toNat*(1:Nat) < us.length) then (bif inR IntKind.i64 (j+(1:Int)) then some (.normal,slots 194 [(0,(.sl false 129 0 0 us.length)),(1,(.lst false 129 vs.length (lim vs))),(2,(.val (.int .i64 i))),(7,(.val (.int .i64 k))),(9,(.val (.int .u64 g))),(15,(.val (.int .u32 ((us.getD q_1 (0:Int)+ws.getD j.toNat (0:Int)+s) / (4294967296:Int))))),(157,(.lst false 129 ws.length (lim ws))),(158,(.val (.int .i64 n))),(159,(.val (.int .i64 (j+(1:Int)))))], [(.row (.ints .u32 (us.set q_1 ((us.getD q_1 (0:Int)+ws.getD j.toNat (0:Int)+s) % (4294967296:Int)))) 129 .live),(.row (.ints .u32 qs) 129 .live)]) else none) else none) else none) else none) else none) else none) else none) else none) else none) else some ((.exit 4),slots 194 [(0,(.sl false 129 0 0 us.length)),(1,(.lst false 129 vs.length (lim vs))),(2,(.val (.int .i64 i))),(7,(.val (.int .i64 k))),(9,(.val (.int .u64 g))),(15,(.val (.int .u32 s))),(157,(.lst false 129 ws.length (lim ws))),(158,(.val (.int .i64 n))),(159,(.val (.int .i64 j)))], [(.row (.ints .u32 us) 129 .live),(.row (.ints .u32 qs) 129 .live)]))):=by kernel_rfl
theorem step_ab {us:List Int} {vs:List Int} {i:Int} {k:Int} {g:Int} {s:Int} {ws:List Int} {n:Int} {j:Int} {qs:List Int} {e:Ex} {T:List AV} {H:Hp} (h:roundB Tryz.prog EAd 2 172 [0,1,2,7,9,15,157,158,159] (lb 172 p_ab) (false :: p_ab) (sh_ab us vs i k g s ws n j qs) (hp_ab us vs i k g s ws n j qs)=some (e,T,H)):V.Ends Tryz.prog false 2 0 (lb 172 p_ab) (sh_ab us vs i k g s ws n j qs) (hp_ab us vs i k g s ws n j qs) e T H:=
 round_endsB EAd_ok loops_none mixed code_ab h
def pre_ab (us vs:List Int) (i k g s:Int) (ws:List Int) (n j:Int) (qs:List Int):Prop:=∃ I:Nat,i=I∧okL us∧okL ws∧us.length≤17592186044416∧I+ws.length < us.length∧s=0∧n=ws.length∧j=0
def post_ab (us vs:List Int) (i k g s:Int) (ws:List Int) (n j:Int) (qs:List Int) (r:List Int×Int×Int):Prop:=∃ s':Nat,r.2.1=s'∧s'≤1∧okL r.1∧r.1.length=us.length∧r.1.drop (i.toNat+ws.length)=us.drop (i.toNat+ws.length)∧vL r.1+4294967296 ^ (i.toNat+ws.length)*s'=vL us+4294967296 ^ i.toNat*vL ws
theorem ab_go (vs ws qs:List Int) (k g:Int) (hv:okL ws) (i:Nat) (d:Nat):∀ (j s T:Nat) (us:List Int),j+d=ws.length→okL us→us.length≤17592186044416→i+ws.length < us.length→s≤1→
  Aside0 (vL us+4294967296 ^ (i+j)*s=T+4294967296 ^ i*vL (ws.take j))→
  ∃ r:List Int×Int×Int,LoopToB Tryz.prog 2 (lb 172 p_ab) (sh_ab us vs i k g s ws ws.length j qs) (hp_ab us vs i k g s ws ws.length j qs) (.exit 4) (sh_ab r.1 vs i k g r.2.1 ws ws.length r.2.2 qs) (hp_ab r.1 vs i k g r.2.1 ws ws.length r.2.2 qs)∧
   ∃ s':Nat,r.2.1=s'∧s'≤1∧okL r.1∧r.1.length=us.length∧r.1.drop (i+ws.length)=us.drop (i+ws.length)∧vL r.1+4294967296 ^ (i+ws.length)*s'=T+4294967296 ^ i*vL ws:=by
 induction d with
 | zero=>
  intro j s T us hj hok hbu hiu hs hT
  have hj':j=ws.length:=by omega
  subst hj'
  refine ⟨(us,(s:Int),(ws.length:Int)), .last (step_ab ?_) (by intro h;cases h),s,rfl,hs,hok,rfl,rfl, ?_⟩
  ·rw [round_ab,dF (show ¬ ((ws.length:Int) < ws.length) by omega)]
   rfl
  ·have:=hT.out
   rw [List.take_length] at this
   exact this
 | succ d ih=>
  intro j s T us hj hok hbu hiu hs HT
  have hjv:j < ws.length:=by omega
  have hij:i+j < us.length:=by omega
  obtain ⟨y,hy,hey,hry⟩:=getD_limb hv j hjv
  obtain ⟨x,hx,hex,hrx⟩:=getD_limb hok (i+j) hij
  have HS:=Aside0.mk (vL_take_succ ws j hjv)
  rw [hey,Int.toNat_natCast] at HS
  have hlo:(x+y+s) % 4294967296 < 4294967296:=Nat.mod_lt _ (by decide)
  have hs':(x+y+s) / 4294967296≤1:=by omega
  have HV:=Aside0.mk (vL_set us (i+j) hij (((x+y+s) % 4294967296:Nat):Int))
  rw [hex,Int.toNat_natCast,Int.toNat_natCast] at HV
  obtain ⟨r,h1,s2,g1,g2,g3,g4,g5,g6⟩:=ih (j+1) ((x+y+s) / 4294967296) T (us.set (i+j) (((x+y+s) % 4294967296:Nat):Int)) (by omega) (okL_set hok _ _ (Int.natCast_nonneg _) (Int.ofNat_lt.2 hlo)) (by rw [List.length_set];exact hbu) (by rw [List.length_set];exact hiu) hs' (by
   have hT:=HT.out
   have hS:=HS.out
   have hV:=HV.out
   constructor
   rw [hS,show i+(j+1)=(i+j)+1 from rfl,Nat.pow_succ]
   have e1:4294967296 ^ i*(vL (ws.take j)+4294967296 ^ j*y)=4294967296 ^ i*vL (ws.take j)+4294967296 ^ (i+j)*y:=by rw [Nat.pow_add];grind
   have e2:4294967296 ^ (i+j)*((x+y+s) % 4294967296)+4294967296 ^ (i+j)*4294967296*((x+y+s) / 4294967296)=4294967296 ^ (i+j)*(x+y+s):=by
    rw [Nat.mul_assoc,← Nat.mul_add,Nat.mod_add_div]
   simp only [Nat.mul_add] at e2 ⊢
   simp only [Nat.mul_add] at e1
   rw [e1]
   generalize 4294967296 ^ (i+j)*((x+y+s) % 4294967296)=a1 at*
   generalize 4294967296 ^ (i+j)*4294967296*((x+y+s) / 4294967296)=a2 at*
   generalize 4294967296 ^ i*vL (ws.take j)=a5 at*
   omega)
  refine ⟨r, .more (step_ab ?_) h1,s2,g1,g2,g3,by rw [g4,List.length_set],by rw [g5,List.drop_set_of_lt (by omega)],g6⟩
  clear h1 g6 ih HT HS HV
  have hr:=round_ab us vs i k g s ws ws.length j qs
  have e1:(i:Int)+(j:Int)=((i+j:Nat):Int):=by omega
  rw [e1,Int.toNat_natCast,Int.toNat_natCast,Nat.zero_add,Nat.mul_one,hry,hrx,i64L (i+j) (by omega),i64T (show -9223372036854775808≤(j:Int)+1∧(j:Int)+1≤9223372036854775807 by omega),dT (show (j:Int) < ws.length by omega),dT (show (0:Int)≤(j:Int) by omega),dT (show (0:Int)≤((i+j:Nat):Int) by omega),dT (show ((i+j:Nat):Int) < (us.length:Int) by omega),dT hij,inU_in hx,inU_in hy,inU_in (show s < 4294967296 by omega),dT (show (s:Int)≤1 by omega)] at hr
  rw [hr]
  unfold sh_ab hp_ab
  rw [List.length_set]
  rfl
theorem loop_ab (us vs:List Int) (i k g s:Int) (ws:List Int) (n j:Int) (qs:List Int) (h:pre_ab us vs i k g s ws n j qs):∃ r:List Int×Int×Int,LoopToB Tryz.prog 2 (lb 172 p_ab) (sh_ab us vs i k g s ws n j qs) (hp_ab us vs i k g s ws n j qs) (.exit 4) (sh_ab r.1 vs i k g r.2.1 ws n r.2.2 qs) (hp_ab r.1 vs i k g r.2.1 ws n r.2.2 qs)∧post_ab us vs i k g s ws n j qs r:=by
 obtain ⟨i,rfl,hu,hw,hb,hi,rfl,rfl,rfl⟩:=h
 unfold post_ab
 rw [Int.toNat_natCast]
 exact ab_go vs ws qs k g hw i ws.length 0 0 (vL us) us (by omega) hu hb hi (by omega) ⟨by rw [List.take_zero,vL_nil];simp⟩
def told_ab (κ:List Int→List Int→Int→Int→Int→Int→List Int→Int→Int→List Int→Bool) (φ:List Int→List Int→Int→Int→Int→Int→List Int→Int→Int→List Int→List Int×Int×Int) (T:List AV) (H:Hp):Option (Bool×Ex×List AV×Hp):=
 match lget T 0,lget T 1,lget T 2,lget T 7,lget T 9,lget T 15,lget T 157,lget T 158,lget T 159,H with
 | .sl false 129 0 0 m_us, .lst false 129 m_vs f_vs, .val (.int .i64 i), .val (.int .i64 k), .val (.int .u64 g), .val (.int .u32 s), .lst false 129 m_ws f_ws, .val (.int .i64 n), .val (.int .i64 j), [.row (.ints .u32 us) 129 .live, .row (.ints .u32 qs) 129 .live]=>bif T.length==194 then some (okB m_vs f_vs&&okB m_ws f_ws&&decide (m_us=us.length)&&κ us (rowOf m_vs f_vs) i k g s (rowOf m_ws f_ws) n j qs, .exit 4,sh_ab ((φ us (rowOf m_vs f_vs) i k g s (rowOf m_ws f_ws) n j qs).1) (rowOf m_vs f_vs) i k g ((φ us (rowOf m_vs f_vs) i k g s (rowOf m_ws f_ws) n j qs).2.1) (rowOf m_ws f_ws) n ((φ us (rowOf m_vs f_vs) i k g s (rowOf m_ws f_ws) n j qs).2.2) qs,hp_ab ((φ us (rowOf m_vs f_vs) i k g s (rowOf m_ws f_ws) n j qs).1) (rowOf m_vs f_vs) i k g ((φ us (rowOf m_vs f_vs) i k g s (rowOf m_ws f_ws) n j qs).2.1) (rowOf m_ws f_ws) n ((φ us (rowOf m_vs f_vs) i k g s (rowOf m_ws f_ws) n j qs).2.2) qs) else none
 | _,_,_,_,_,_,_,_,_,_=>none
abbrev KT_ab:Type:=List Int→List Int→Int→Int→Int→Int→List Int→Int→Int→List Int→Bool
abbrev FT_ab:Type:=List Int→List Int→Int→Int→Int→Int→List Int→Int→Int→List Int→List Int×Int×Int
def LL_ab (κ:KT_ab) (φ:FT_ab) (L:LTab):LTab:=addLn 2 172 p_ab [0,1,2,7,9,15,157,158,159] (told_ab κ φ) L
def phi_ab (us:List Int) (vs:List Int) (i:Int) (k:Int) (g:Int) (s:Int) (ws:List Int) (n:Int) (j:Int) (qs:List Int):List Int×Int×Int:=Classical.epsilon fun ρ=>LoopToB Tryz.prog 2 (lb 172 p_ab) (sh_ab us vs i k g s ws n j qs) (hp_ab us vs i k g s ws n j qs) (.exit 4) (sh_ab (ρ.1) vs i k g (ρ.2.1) ws n (ρ.2.2) qs) (hp_ab (ρ.1) vs i k g (ρ.2.1) ws n (ρ.2.2) qs)∧post_ab us vs i k g s ws n j qs ρ
theorem phi_ab_spec (us:List Int) (vs:List Int) (i:Int) (k:Int) (g:Int) (s:Int) (ws:List Int) (n:Int) (j:Int) (qs:List Int) (h:pre_ab us vs i k g s ws n j qs):LoopToB Tryz.prog 2 (lb 172 p_ab) (sh_ab us vs i k g s ws n j qs) (hp_ab us vs i k g s ws n j qs) (.exit 4) (sh_ab ((phi_ab us vs i k g s ws n j qs).1) vs i k g ((phi_ab us vs i k g s ws n j qs).2.1) ws n ((phi_ab us vs i k g s ws n j qs).2.2) qs) (hp_ab ((phi_ab us vs i k g s ws n j qs).1) vs i k g ((phi_ab us vs i k g s ws n j qs).2.1) ws n ((phi_ab us vs i k g s ws n j qs).2.2) qs)∧post_ab us vs i k g s ws n j qs (phi_ab us vs i k g s ws n j qs):=Classical.epsilon_spec (loop_ab us vs i k g s ws n j qs h)
def cond_ab (us:List Int) (vs:List Int) (i:Int) (k:Int) (g:Int) (s:Int) (ws:List Int) (n:Int) (j:Int) (qs:List Int):Bool:= @decide (pre_ab us vs i k g s ws n j qs) (Classical.propDecidable _)
theorem cond_ab_eq (us:List Int) (vs:List Int) (i:Int) (k:Int) (g:Int) (s:Int) (ws:List Int) (n:Int) (j:Int) (qs:List Int) (h:pre_ab us vs i k g s ws n j qs):cond_ab us vs i k g s ws n j qs=true:= @decide_eq_true _ (Classical.propDecidable _) h
theorem told_ab_ok (T:List AV) (H:Hp) (e:Ex) (T1:List AV) (H1:Hp) (h:told_ab cond_ab phi_ab T H=some (true,e,T1,H1)):V.Ends Tryz.prog false 2 0 (.loop (lb 172 p_ab)) T H e T1 H1:=by
 unfold told_ab at h
 split at h
 ·rename_i m_us m_vs f_vs i k g s m_ws f_ws n j us qs h0 h1 h2 h7 h9 h15 h157 h158 h159
  rw [Bool.cond_eq_ite] at h
  split at h
  ·rename_i hlen
   rw [beq_iff_eq] at hlen
   simp only [Option.some.injEq,Prod.mk.injEq,Bool.and_eq_true,decide_eq_true_eq] at h
   obtain ⟨⟨⟨⟨k1,k2⟩,k3⟩,k4⟩,rfl,rfl,rfl⟩:=h
   have kc:= @of_decide_eq_true _ (Classical.propDecidable _) k4
   refine Ends.pre (phi_ab_spec us (rowOf m_vs f_vs) i k g s (rowOf m_ws f_ws) n j qs kc).1.ends (fun α B w D ys hr=>slots_rel hlen (fun p hp y hy=> ?_) hr)
   simp only [List.mem_cons,List.not_mem_nil,or_false] at hp
   rcases hp with rfl | rfl | rfl | rfl | rfl | rfl | rfl | rfl | rfl
   ·rw [h0] at hy;rw [← k3];exact hy
   ·rw [h1] at hy;rw [rowOf_len];exact row_norm cells129 k1 hy
   ·rw [h2] at hy;exact hy
   ·rw [h7] at hy;exact hy
   ·rw [h9] at hy;exact hy
   ·rw [h15] at hy;exact hy
   ·rw [h157] at hy;rw [rowOf_len];exact row_norm cells129 k2 hy
   ·rw [h158] at hy;exact hy
   ·rw [h159] at hy;exact hy
  ·cases h
 ·cases h
theorem LL_ab_ok {L:LTab} (h:LOk Tryz.prog L):LOk Tryz.prog (LL_ab cond_ab phi_ab L):=h.add2n body_ab told_ab_ok
end
end Go.Proofs.YtamcpiicmfielaaGreat.L
namespace Go.Proofs.YtamcpiicmfielaaGreat.L
open Go Go.V Go.RowKit Go.Proofs.YtamcpiicmfielaaGreat.Sp Go.Proofs.YtamcpiicmfielaaGreat.F Go.Proofs.YtamcpiicmfielaaGreatW.PrintWords
open Go.Proofs (Tryz.prog)
noncomputable section
def EDg (κ1:KT_gs) (φ1:FT_gs) (κ2:KT_ms) (φ2:FT_ms) (κ3:KT_ab) (φ3:FT_ab):Env:= ⟨addC 154 tSub32 noC,Kall,LL_gs κ1 φ1 (LL_ms κ2 φ2 (LL_ab κ3 φ3 noL))⟩
abbrev p_dv:List Bool:= [false,true,false,true,true,true,true,true,true]
def sh_dv (k0:Int) (us:List Int) (vs:List Int) (qs:List Int) (i:Int):List AV:=slots 73 [(8, .val (.int .i64 k0)),(9, .sl false 129 0 0 us.length),(10, .lst false 129 vs.length (lim vs)),(11, .sl false 129 1 0 qs.length),(12, .val (.int .i64 i))]
def hp_dv (k0:Int) (us:List Int) (vs:List Int) (qs:List Int) (i:Int):Hp:= [.row (.ints .u32 us) 129 .live, .row (.ints .u32 qs) 129 .live]
theorem body_dv:subC Tryz.prog 152 p_dv=some (.loop (lb 152 p_dv)):=by kernel_rfl
theorem code_dv:subC Tryz.prog 152 (false :: p_dv)=some (lb 152 p_dv):=by kernel_rfl
theorem round_dv (κ1:KT_gs) (φ1:FT_gs) (κ2:KT_ms) (φ2:FT_ms) (κ3:KT_ab) (φ3:FT_ab) (k0:Int) (us:List Int) (vs:List Int) (qs:List Int) (i:Int):letI q_10:=(rowOf vs.length (lim vs));letI q_4:=(rowOf q_10.length (lim q_10));letI q_9:=(i+(↑vs.length:Int));letI q_5:=((0:Nat)+q_9.toNat*(1:Nat));letI q_12:=(i+(↑vs.length:Int) - (1:Int));letI q_6:=(bitI BinOp.or IntKind.u64 (IntKind.u64.wrap (us.getD q_5 (0:Int)*(4294967296:Int))) (us.getD ((0:Nat)+q_12.toNat*(1:Nat)) (0:Int)));letI q_11:=((↑vs.length:Int) - (1:Int));letI q_8:=(vs.getD q_11.toNat (0:Int));letI q_3:=(φ1 us q_10 i (↑vs.length:Int) (IntKind.u64.wrap (q_6.tdiv q_8)) (q_6.tmod q_8) qs);letI q_1:=(φ2 us q_4 i (↑vs.length:Int) q_3.fst (0:Int) (0:Int) q_4 (↑q_10.length:Int) (0:Int) qs);letI q_7:=(q_1.fst.set q_5 ((q_1.fst.getD q_5 (0:Int)+(8589934592:Int) - IntKind.u32.wrap q_1.snd.fst - q_1.snd.snd.fst) % (4294967296:Int)));letI q_2:=(φ3 q_7 (rowOf q_4.length (lim q_4)) i (↑vs.length:Int) q_3.fst (0:Int) (rowOf q_4.length (lim q_4)) (↑q_4.length:Int) (0:Int) qs);
  (roundA Tryz.prog (EDg κ1 φ1 κ2 φ2 κ3 φ3) 152 [8,9,10,11,12] (lb 152 p_dv) (false :: p_dv) (sh_dv k0 us vs qs i) (hp_dv k0 us vs qs i)=(bif decide ((0:Int)≤i) then (bif decide ((0:Nat)+us.length*(1:Nat)≤us.length) then (bif inR IntKind.i64 q_9 then (bif decide ((0:Int)≤i+(↑vs.length:Int))&&decide (i+(↑vs.length:Int) < (↑us.length:Int)) then (bif decide ((0:Nat)+q_9.toNat*(1:Nat) < us.length) then (bif inR IntKind.u64 (us.getD q_5 (0:Int)) then (bif inR IntKind.i64 q_9 then (bif inR IntKind.i64 q_12 then (bif decide ((0:Int)≤i+(↑vs.length:Int) - (1:Int))&&decide (i+(↑vs.length:Int) - (1:Int) < (↑us.length:Int)) then (bif decide ((0:Nat)+q_12.toNat*(1:Nat) < us.length) then (bif inR IntKind.u64 (us.getD ((0:Nat)+q_12.toNat*(1:Nat)) (0:Int)) then (bif inR IntKind.i64 q_11 then (bif decide ((0:Int)≤(↑vs.length:Int) - (1:Int))&&decide ((↑vs.length:Int) - (1:Int) < (↑vs.length:Int)) then (bif inR IntKind.u64 q_8 then (bif decide (vs.getD q_11.toNat (0:Int)=(0:Int)) then none else (bif inR IntKind.i64 q_11 then (bif decide ((0:Int)≤(↑vs.length:Int) - (1:Int))&&decide ((↑vs.length:Int) - (1:Int) < (↑vs.length:Int)) then (bif inR IntKind.u64 q_8 then (bif decide (vs.getD q_11.toNat (0:Int)=(0:Int)) then none else (bif okB vs.length (lim vs)&&decide (us.length=us.length)&&κ1 us q_10 i (↑vs.length:Int) (IntKind.u64.wrap (q_6.tdiv q_8)) (q_6.tmod q_8) qs then (bif okB q_10.length (lim q_10)&&okB q_10.length (lim q_10)&&decide (us.length=us.length)&&κ2 us q_4 i (↑vs.length:Int) q_3.fst (0:Int) (0:Int) q_4 (↑q_10.length:Int) (0:Int) qs then (bif inR IntKind.i64 q_9 then (bif inR IntKind.i64 q_9 then (bif decide ((0:Int)≤i+(↑vs.length:Int))&&decide (i+(↑vs.length:Int) < (↑q_1.fst.length:Int)) then (bif decide ((0:Nat)+q_9.toNat*(1:Nat) < q_1.fst.length) then (bif inU (q_1.fst.getD q_5 (0:Int))&&inU (IntKind.u32.wrap q_1.snd.fst)&&decide ((0:Int)≤q_1.snd.snd.fst)&&decide (q_1.snd.snd.fst≤(1:Int)) then (bif decide ((0:Int)≤i+(↑vs.length:Int))&&decide (i+(↑vs.length:Int) < (↑q_1.fst.length:Int)) then (bif decide ((0:Nat)+q_9.toNat*(1:Nat) < q_1.fst.length) then (bif decide ((if q_1.fst.getD q_5 (0:Int) < IntKind.u32.wrap q_1.snd.fst+q_1.snd.snd.fst then (1:Int) else (0:Int))=(0:Int)) then (bif decide ((0:Int)≤i)&&decide (i < (↑qs.length:Int)) then (bif decide ((0:Nat)+i.toNat*(1:Nat) < qs.length) then (bif inR IntKind.i64 (i - (1:Int)) then some (.normal,slots 73 [(8,(.val (.int .i64 k0))),(9,(.sl false 129 0 0 us.length)),(10,(.lst false 129 vs.length (lim vs))),(11,(.sl false 129 1 0 qs.length)),(12,(.val (.int .i64 (i - (1:Int)))))], [(.row (.ints .u32 q_7) 129 .live),(.row (.ints .u32 (qs.set ((0:Nat)+i.toNat*(1:Nat)) (IntKind.u32.wrap q_3.fst))) 129 .live)]) else none) else none) else none) else (bif okB q_4.length (lim q_4)&&okB q_4.length (lim q_4)&&decide (q_1.fst.length=q_7.length)&&κ3 q_7 (rowOf q_4.length (lim q_4)) i (↑vs.length:Int) q_3.fst (0:Int) (rowOf q_4.length (lim q_4)) (↑q_4.length:Int) (0:Int) qs then (bif inR IntKind.i64 q_9 then (bif decide ((0:Int)≤i+(↑vs.length:Int))&&decide (i+(↑vs.length:Int) < (↑q_2.fst.length:Int)) then (bif decide ((0:Nat)+q_9.toNat*(1:Nat) < q_2.fst.length) then (bif decide ((0:Int)≤i+(↑vs.length:Int))&&decide (i+(↑vs.length:Int) < (↑q_2.fst.length:Int)) then (bif decide ((0:Nat)+q_9.toNat*(1:Nat) < q_2.fst.length) then (bif decide ((0:Int)≤i)&&decide (i < (↑qs.length:Int)) then (bif decide ((0:Nat)+i.toNat*(1:Nat) < qs.length) then (bif inR IntKind.i64 (i - (1:Int)) then some (.normal,slots 73 [(8,(.val (.int .i64 k0))),(9,(.sl false 129 0 0 us.length)),(10,(.lst false 129 vs.length (lim vs))),(11,(.sl false 129 1 0 qs.length)),(12,(.val (.int .i64 (i - (1:Int)))))], [(.row (.ints .u32 (q_2.fst.set q_5 (IntKind.u32.wrap (q_2.fst.getD q_5 (0:Int)+q_2.snd.fst)))) 129 .live),(.row (.ints .u32 (qs.set ((0:Nat)+i.toNat*(1:Nat)) (IntKind.u32.wrap (IntKind.u64.wrap (q_3.fst - (1:Int)))))) 129 .live)]) else none) else none) else none) else none) else none) else none) else none) else none) else none)) else none) else none) else none) else none) else none) else none) else none) else none) else none)) else none) else none) else none)) else none) else none) else none) else none) else none) else none) else none) else none) else none) else none) else none) else none) else none) else some ((.exit 0),slots 73 [(8,(.val (.int .i64 k0))),(9,(.sl false 129 0 0 us.length)),(10,(.lst false 129 vs.length (lim vs))),(11,(.sl false 129 1 0 qs.length)),(12,(.val (.int .i64 i)))], [(.row (.ints .u32 us) 129 .live),(.row (.ints .u32 qs) 129 .live)]))):=by kernel_rfl
theorem step_dv {k0:Int} {us:List Int} {vs:List Int} {qs:List Int} {i:Int} {e:Ex} {T:List AV} {H:Hp} (h:roundA Tryz.prog (EDg cond_gs phi_gs cond_ms phi_ms cond_ab phi_ab) 152 [8,9,10,11,12] (lb 152 p_dv) (false :: p_dv) (sh_dv k0 us vs qs i) (hp_dv k0 us vs qs i)=some (e,T,H)):V.Ends Tryz.prog false 0 0 (lb 152 p_dv) (sh_dv k0 us vs qs i) (hp_dv k0 us vs qs i) e T H:=
 round_ends ((meets_none _).add eSub32) (LL_gs_ok (LL_ms_ok (LL_ab_ok LOk.none))).ok mixed code_dv h
theorem getD_of_drop {u w:List Int} {n:Nat} (h:u.drop n=w.drop n):u.getD n 0=w.getD n 0:=by
 have:=congrArg (fun l=>l[0]?) h
 simp only [List.getElem?_drop,Nat.add_zero] at this
 rw [List.getD_eq_getElem?_getD,List.getD_eq_getElem?_getD,this]
theorem dig_step (k0:Int) (us vs qs:List Int) (i:Nat) (hu:okL us) (hv:okL vs) (hk:2≤vs.length) (hi:i+vs.length < us.length) (hb:us.length≤17592186044416) (v1:Nat) (hv1:v1 < 4294967296) (hv1n:2147483648≤v1) (ev1:vs.getD (vs.length - 1) 0=(v1:Int)) (hlt:vL us < 4294967296 ^ (i+1)*vL vs) (hiq:i < qs.length):
  ∃ (q:Nat) (us':List Int),q < 4294967296∧okL us'∧us'.length=us.length∧vL us'+4294967296 ^ i*(q*vL vs)=vL us∧vL us' < 4294967296 ^ i*vL vs∧
   V.Ends Tryz.prog false 0 0 (lb 152 p_dv) (sh_dv k0 us vs qs i) (hp_dv k0 us vs qs i) .normal (sh_dv k0 us' vs (qs.set i (q:Int)) ((i:Int) - 1)) (hp_dv k0 us' vs (qs.set i (q:Int)) ((i:Int) - 1)):=by
 have hu0:i+vs.length < us.length:=hi
 have hu1:i+vs.length - 1 < us.length:=by omega
 have hid:i+vs.length+1≤us.length:=by omega
 obtain ⟨x0,hx0,ex0,r0⟩:=getD_limb hu _ hu0
 obtain ⟨x1,hx1,ex1,r1⟩:=getD_limb hu _ hu1
 have htop:x0*4294967296+x1 < 18446744073709551616:=by omega
 have hVlt:=vL_lt hv
 have hz:vL (us.drop (i+vs.length+1))=0:=by
  refine vL_high _ hid (Nat.lt_of_lt_of_le hlt ?_)
  rw [show i+vs.length+1=(i+1)+vs.length by omega,Nat.pow_add 4294967296 (i+1) vs.length]
  exact Nat.mul_le_mul_left _ (Nat.le_of_lt hVlt)
 have hVpos:0 < 4294967296 ^ i*vL vs:=by
  rcases Nat.eq_zero_or_pos (vL vs) with h | h
  ·rw [h,Nat.mul_zero] at hlt;omega
  ·exact Nat.mul_pos (Nat.pow_pos (by decide)) h
 have hq1:vL us / (4294967296 ^ i*vL vs)*(4294967296 ^ i*vL vs)≤vL us:=Nat.div_mul_le_self _ _
 have hq2:vL us < (vL us / (4294967296 ^ i*vL vs)+1)*(4294967296 ^ i*vL vs):=by
  rw [Nat.add_mul,Nat.one_mul]
  exact Nat.lt_div_mul_add hVpos
 have hqB:vL us / (4294967296 ^ i*vL vs) < 4294967296:=by
  rw [Nat.div_lt_iff_lt_mul hVpos,← Nat.mul_assoc,Nat.mul_comm 4294967296,← Nat.pow_succ]
  exact hlt
 have hp1:pre_gs us vs i vs.length ((x0*4294967296+x1) / v1:Nat) ((x0*4294967296+x1) % v1:Nat) qs:= ⟨i,x0,x1,v1,rfl,rfl,hu,hv,hk,hi,hb,ev1,hv1n,hlt,r0,r1,rfl,rfl⟩
 obtain ⟨_,g,g0,hg1,hg2,hg3⟩:=phi_gs_spec _ _ _ _ _ _ _ hp1
 unfold digQ at hg1 hg2
 rw [Int.toNat_natCast] at hg1 hg2
 generalize hqq:vL us / (4294967296 ^ i*vL vs)=q at*
 have k1:=cond_gs_eq _ _ _ _ _ _ _ hp1
 have hp2:pre_ms us vs i vs.length g 0 0 vs vs.length 0 qs:= ⟨i,g,rfl,rfl,hg3,hu,hv,hb,hi,rfl,rfl,rfl,rfl⟩
 obtain ⟨_,c,b,c0,b0,h4,h5,h1,h2,h3,h6⟩:=phi_ms_spec _ _ _ _ _ _ _ _ _ _ _ hp2
 have k2:=cond_ms_eq _ _ _ _ _ _ _ _ _ _ _ hp2
 rw [Int.toNat_natCast] at h3 h6
 rw [Int.toNat_natCast] at h6
 have hr:=round_dv cond_gs phi_gs cond_ms phi_ms cond_ab phi_ab k0 us vs qs i
 have e1:(i:Int)+(vs.length:Int)=((i+vs.length:Nat):Int):=by omega
 have e2:((i+vs.length:Nat):Int) - 1=((i+vs.length - 1:Nat):Int):=by omega
 have e3:(vs.length:Int) - 1=((vs.length - 1:Nat):Int):=by omega
 simp only [rowOf_lim',e1,e2,e3,Int.toNat_natCast,Nat.zero_add,Nat.mul_one,r0,r1,ev1,join64 x0 x1 hx0 hx1,
  show Int.tdiv ((x0*4294967296+x1:Nat):Int) (v1:Int)=(((x0*4294967296+x1) / v1:Nat):Int) from rfl,show Int.tmod ((x0*4294967296+x1:Nat):Int) (v1:Int)=(((x0*4294967296+x1) % v1:Nat):Int) from rfl,u64n (a:=(x0*4294967296+x1) / v1) (Nat.lt_of_le_of_lt (Nat.div_le_self _ _) htop),k1,g0,k2,c0,b0] at hr
 generalize phi_ms us vs i vs.length g 0 0 vs vs.length 0 qs=ρ at*
 obtain ⟨u1,ρ2⟩:=ρ
 simp only at h1 h2 h3 h6 hr c0 b0
 have hu1l:i+vs.length < u1.length:=by omega
 have r0':u1.getD (i+vs.length) 0=(x0:Int):=by rw [getD_of_drop h3];exact r0
 have ex0':u1[i+vs.length]=(x0:Int):=by
  rw [List.getD_eq_getElem?_getD,List.getElem?_eq_getElem hu1l,Option.getD_some] at r0'
  exact r0'
 have hD:(x0+8589934592 - c - b) % 4294967296+c+b=x0+4294967296*(if x0 < c+b then 1 else 0):=by
  clear h6 hlt hq1 hq2 hVpos hVlt hr
  split <;> omega
 have ed:((x0:Int)+8589934592 - (c:Int) - (b:Int)) % 4294967296=(((x0+8589934592 - c - b) % 4294967296:Nat):Int):=by
  clear h6 hlt hq1 hq2 hVpos hVlt hr
  omega
 have hDlt:(x0+8589934592 - c - b) % 4294967296 < 4294967296:=Nat.mod_lt _ (by decide)
 have t1:decide ((0:Int)≤(i:Int))=true:=dT (by omega)
 have t2:decide (us.length≤us.length)=true:=dT (by omega)
 have t3:inR .i64 ((i+vs.length:Nat):Int)=true:=i64L _ (by omega)
 have t4:decide ((0:Int)≤((i+vs.length:Nat):Int))=true:=dT (by omega)
 have t5:decide (((i+vs.length:Nat):Int) < (us.length:Int))=true:=dT (by omega)
 have t6:decide (i+vs.length < us.length)=true:=dT (by omega)
 have t7:inR .u64 (x0:Int)=true:=u64T (by omega)
 have t8:inR .i64 ((i+vs.length - 1:Nat):Int)=true:=i64L _ (by omega)
 have t9:decide ((0:Int)≤((i+vs.length - 1:Nat):Int))=true:=dT (by omega)
 have t10:decide (((i+vs.length - 1:Nat):Int) < (us.length:Int))=true:=dT (by omega)
 have t11:decide (i+vs.length - 1 < us.length)=true:=dT (by omega)
 have t12:inR .u64 (x1:Int)=true:=u64T (by omega)
 have t13:inR .i64 ((vs.length - 1:Nat):Int)=true:=i64L _ (by omega)
 have t14:decide ((0:Int)≤((vs.length - 1:Nat):Int))=true:=dT (by omega)
 have t15:decide (((vs.length - 1:Nat):Int) < (vs.length:Int))=true:=dT (by omega)
 have t16:inR .u64 (v1:Int)=true:=u64T (by omega)
 have t17:decide ((v1:Int)=0)=false:=dF (by omega)
 have t18:decide (us.length=us.length)=true:=dT rfl
 have t19:decide (((i+vs.length:Nat):Int) < (u1.length:Int))=true:=dT (by omega)
 have t20:decide (i+vs.length < u1.length)=true:=dT hu1l
 have t21:inU (x0:Int)=true:=inU_in hx0
 have t22:IntKind.u32.wrap (c:Int)=(c:Int):=by rw [u32w,Nat.mod_eq_of_lt h4]
 have t23:inU (c:Int)=true:=inU_in h4
 have t24:decide ((0:Int)≤(b:Int))=true:=dT (by omega)
 have t25:decide ((b:Int)≤1)=true:=dT (by omega)
 have t26:decide ((i:Int) < (qs.length:Int))=true:=dT (by omega)
 have t27:decide (i < qs.length)=true:=dT hiq
 have t28:inR .i64 ((i:Int) - 1)=true:=i64T (by omega)
 have t29:okB vs.length (lim vs)=true:=okB_lim hv
 simp only [t1,t2,t3,t4,t5,t6,t7,t8,t9,t10,t11,t12,t13,t14,t15,t16,t17,t18,t19,t20,r0',t21,t22,t23,t24,t25,t26,t27,t28,t29,ed] at hr
 clear t1 t2 t3 t4 t5 t6 t7 t8 t9 t10 t11 t12 t13 t14 t15 t16 t17 t18 t19 t20 t21 t22 t23 t24 t25 t26 t27 t28 t29
 generalize hbb:(if x0 < c+b then 1 else 0:Nat)=b2 at*
 generalize hDD:(x0+8589934592 - c - b) % 4294967296=D at*
 have hset:=vL_set u1 (i+vs.length) hu1l (D:Int)
 rw [ex0',Int.toNat_natCast,Int.toNat_natCast] at hset
 have hfin:=sub_fin (T:=0) h6 hset hD
 have hyok:okL (u1.set (i+vs.length) (D:Int)):=okL_set h1 _ _ (Int.natCast_nonneg _) (Int.ofNat_lt.2 hDlt)
 have hylen:(u1.set (i+vs.length) (D:Int)).length=us.length:=by rw [List.length_set];exact h2
 have hdr:∀ w:List Int,w.drop (i+vs.length)=us.drop (i+vs.length)→w.drop (i+vs.length+1)=us.drop (i+vs.length+1):=by
  intro w hw
  have:=congrArg (fun l=>l.drop 1) hw
  simpa [List.drop_drop] using this
 have hydrop:(u1.set (i+vs.length) (D:Int)).drop (i+vs.length+1)=us.drop (i+vs.length+1):=by
  rw [List.drop_set_of_lt (by omega)]
  exact hdr _ h3
 have hylow:vL (u1.set (i+vs.length) (D:Int)) < 4294967296 ^ (i+vs.length+1):=vL_low hyok _ (by rw [hylen];exact hid) (by rw [hydrop];exact hz)
 have hassoc:∀ z:Nat,4294967296 ^ i*(z*vL vs)=z*(4294967296 ^ i*vL vs):=fun z=>by rw [Nat.mul_left_comm]
 have hpow1:4294967296 ^ (i+vs.length)*4294967296=4294967296 ^ (i+vs.length+1):=(Nat.pow_succ ..).symm
 rw [hassoc,hpow1] at hfin
 have eb:(if (x0:Int) < (c:Int)+(b:Int) then (1:Int) else 0)=(b2:Int):=by
  rw [← hbb]
  clear h6 hlt hq1 hq2 hVpos hVlt hr hfin hset
  split <;> split <;> omega
 have hb2:b2=0∨b2=1:=by
  rw [← hbb]
  by_cases h:x0 < c+b
  ·right;rw [if_pos h]
  ·left;rw [if_neg h]
 simp only [eb] at hr
 rcases hb2 with hb2 | hb2
 ·-- the guess was right
  rw [hb2,Nat.mul_zero,Nat.add_zero] at hfin
  have hgq:=fin_a hfin hq2 hg1
  refine ⟨g,u1.set (i+vs.length) (D:Int),hg3,hyok,hylen,by rw [hassoc];exact hfin, ?_,step_dv ?_⟩
  ·rw [Nat.add_mul,Nat.one_mul] at hq2
   rw [← hgq] at hq2
   omega
  ·rw [hb2] at hr
   rw [show IntKind.u32.wrap (g:Int)=(g:Int) by rw [u32w,Nat.mod_eq_of_lt hg3],dT (show ((0:Nat):Int)=0 from rfl)] at hr
   rw [hr]
   unfold sh_dv hp_dv
   rw [hylen,List.length_set]
   rfl
 ·-- the guess was one too great
  rw [hb2,Nat.mul_one] at hfin
  have hgq:=fin_b hfin hylow hq1 hg1 hg2
  have hp3:pre_ab (u1.set (i+vs.length) (D:Int)) vs i vs.length g 0 vs vs.length 0 qs:= ⟨i,rfl,hyok,hv,by rw [hylen];exact hb,by rw [hylen];exact hi,rfl,rfl,rfl⟩
  obtain ⟨_,s,s0,k4,m1,m2,m3,m5⟩:=phi_ab_spec _ _ _ _ _ _ _ _ _ _ hp3
  have k3:=cond_ab_eq _ _ _ _ _ _ _ _ _ _ hp3
  rw [Int.toNat_natCast] at m3 m5
  rw [hb2] at hr
  rw [dF (show ¬ ((1:Nat):Int)=0 by omega),k3,s0] at hr
  generalize phi_ab (u1.set (i+vs.length) (D:Int)) vs i vs.length g 0 vs vs.length 0 qs=ρ3 at*
  obtain ⟨u3,ρ4⟩:=ρ3
  simp only at m1 m2 m3 m5 hr s0
  have hu3:i+vs.length < u3.length:=by rw [m2,hylen];exact hi
  obtain ⟨z,hz3,ez,rz⟩:=getD_limb m1 _ hu3
  have hset3:=vL_set u3 (i+vs.length) hu3 (((z+s) % 4294967296:Nat):Int)
  rw [ez,Int.toNat_natCast,Int.toNat_natCast] at hset3
  have hmlt:(z+s) % 4294967296 < 4294967296:=Nat.mod_lt _ (by decide)
  have hfok:okL (u3.set (i+vs.length) (((z+s) % 4294967296:Nat):Int)):=okL_set m1 _ _ (Int.natCast_nonneg _) (Int.ofNat_lt.2 hmlt)
  have hflen:(u3.set (i+vs.length) (((z+s) % 4294967296:Nat):Int)).length=us.length:=by rw [List.length_set,m2,hylen]
  have hflow:vL (u3.set (i+vs.length) (((z+s) % 4294967296:Nat):Int)) < 4294967296 ^ (i+vs.length+1):=by
   refine vL_low hfok _ (by rw [hflen];exact hid) ?_
   rw [List.drop_set_of_lt (by omega)]
   have:=congrArg (fun l=>l.drop 1) m3
   simp only [List.drop_drop] at this
   rw [this,hydrop]
   exact hz
  have ho:(z+s) / 4294967296≤1:=by omega
  have hmd:=Nat.mod_add_div (z+s) 4294967296
  have hval:vL (u3.set (i+vs.length) (((z+s) % 4294967296:Nat):Int))+4294967296 ^ (i+vs.length+1)*((z+s) / 4294967296)=vL (u1.set (i+vs.length) (D:Int))+4294967296 ^ i*vL vs:=by
   rw [← m5,← hpow1]
   have h9:=congrArg (4294967296 ^ (i+vs.length)* ·) hmd
   simp only [Nat.mul_add] at h9
   rw [← Nat.mul_assoc] at h9
   omega
  have hwz:IntKind.u32.wrap ((z:Int)+(s:Int))=(((z+s) % 4294967296:Nat):Int):=by rw [← Int.natCast_add,u32w]
  have hwg:IntKind.u32.wrap (IntKind.u64.wrap ((g:Int) - 1))=(q:Int):=by
   have:IntKind.u64.wrap ((g:Int) - 1)=((q:Nat):Int):=(u64w (by omega) (by omega)).trans (by omega)
   rw [this,u32w,Nat.mod_eq_of_lt hqB]
  have hend:roundA Tryz.prog (EDg cond_gs phi_gs cond_ms phi_ms cond_ab phi_ab) 152 [8,9,10,11,12] (lb 152 p_dv) (false :: p_dv) (sh_dv k0 us vs qs i) (hp_dv k0 us vs qs i)=some (.normal,sh_dv k0 (u3.set (i+vs.length) (((z+s) % 4294967296:Nat):Int)) vs (qs.set i (q:Int)) ((i:Int) - 1),hp_dv k0 (u3.set (i+vs.length) (((z+s) % 4294967296:Nat):Int)) vs (qs.set i (q:Int)) ((i:Int) - 1)):=by
   rw [List.length_set,dT (show u1.length=u1.length from rfl),dT (show ((i+vs.length:Nat):Int) < (u3.length:Int) by omega),dT hu3,rz,hwz,hwg] at hr
   rw [hr]
   unfold sh_dv hp_dv
   rw [hflen,List.length_set]
   rfl
  generalize hfv:vL (u3.set (i+vs.length) (((z+s) % 4294967296:Nat):Int))=fv at*
  generalize (z+s) / 4294967296=o at*
  have hfv2:fv+q*(4294967296 ^ i*vL vs)=vL us:=by
   rw [hgq,Nat.add_mul,Nat.one_mul] at hfin
   rcases (show o=0∨o=1 by omega) with h | h
   ·rw [h,Nat.mul_zero,Nat.add_zero] at hval
    omega
   ·rw [h,Nat.mul_one] at hval
    omega
  refine ⟨q,u3.set (i+vs.length) (((z+s) % 4294967296:Nat):Int),hqB,hfok,hflen,by rw [hassoc,hfv];exact hfv2, ?_,step_dv hend⟩
  rw [hfv]
  rw [Nat.add_mul,Nat.one_mul] at hq2
  omega
def pre_dv (k0:Int) (us vs qs:List Int) (i:Int):Prop:=∃ v1:Nat,okL us∧okL vs∧okL qs∧2≤vs.length∧us.length≤17592186044416∧v1 < 4294967296∧2147483648≤v1∧vs.getD (vs.length - 1) 0=v1∧qs.length+vs.length=us.length∧vL us < 4294967296 ^ qs.length*vL vs∧i=(qs.length:Int) - 1
def post_dv (k0:Int) (us vs qs:List Int) (i:Int) (r:List Int×List Int×Int):Prop:=okL r.1∧okL r.2.1∧r.1.length=us.length∧r.2.1.length=qs.length∧vL r.2.1=vL us / vL vs∧vL r.1=vL us % vL vs
theorem dv_go (k0:Int) (vs:List Int) (hv:okL vs) (hk:2≤vs.length) (v1:Nat) (hv1:v1 < 4294967296) (hv1n:2147483648≤v1) (ev1:vs.getD (vs.length - 1) 0=(v1:Int)) (L:Nat) (hL:L≤17592186044416) (A N:Nat) (d:Nat):
  ∀ (us qs:List Int),okL us→okL qs→us.length=L→qs.length=N→N+vs.length=L→d≤N→vL us < 4294967296 ^ d*vL vs→Aside0 (vL us+4294967296 ^ d*vL (qs.drop d)*vL vs=A)→
  ∃ r:List Int×List Int×Int,LoopTo Tryz.prog (lb 152 p_dv) (sh_dv k0 us vs qs ((d:Int) - 1)) (hp_dv k0 us vs qs ((d:Int) - 1)) (.exit 0) (sh_dv k0 r.1 vs r.2.1 r.2.2) (hp_dv k0 r.1 vs r.2.1 r.2.2)∧okL r.1∧okL r.2.1∧r.1.length=L∧r.2.1.length=N∧vL r.2.1=A / vL vs∧vL r.1=A % vL vs:=by
 induction d with
 | zero=>
  intro us qs hu hq hul hql hN hd hlt HA
  have hA:=HA.out
  rw [Nat.pow_zero,Nat.one_mul] at hlt
  rw [Nat.pow_zero,Nat.one_mul,List.drop_zero,Nat.mul_comm] at hA
  have e1:A / vL vs=vL qs:=by rw [← hA,Nat.add_comm,Nat.mul_add_div (by omega),Nat.div_eq_of_lt hlt];simp
  have e2:A % vL vs=vL us:=by rw [← hA,Nat.add_comm,Nat.mul_add_mod,Nat.mod_eq_of_lt hlt]
  refine ⟨(us,qs,((0:Nat):Int) - 1), .last (step_dv ?_) (by intro h;cases h),hu,hq,hul,hql,e1.symm,e2.symm⟩
  rw [round_dv]
  rfl
 | succ d ih=>
  intro us qs hu hq hul hql hN hd hlt HA
  obtain ⟨g,us',g1,g2,g3,g4,g5,g6⟩:=dig_step k0 us vs qs d hu hv hk (by omega) (by omega) v1 hv1 hv1n ev1 hlt (by omega)
  obtain ⟨r,h1,h2⟩:=ih us' (qs.set d (g:Int)) g2 (okL_set hq _ _ (Int.natCast_nonneg _) (Int.ofNat_lt.2 g1)) (by omega) (by rw [List.length_set];exact hql) hN (by omega) g5 (by
   constructor
   have hA:=HA.out
   rw [← hA,← g4,List.drop_eq_getElem_cons (l:=qs.set d _) (by rw [List.length_set];omega),List.getElem_set_self,List.drop_set_of_lt (by omega),vL_cons,Int.toNat_natCast,Nat.pow_succ]
   grind)
  refine ⟨r, ?_,h2⟩
  rw [show ((d+1:Nat):Int) - 1=(d:Int) by omega]
  exact .more g6 h1
theorem loop_dv (k0:Int) (us vs qs:List Int) (i:Int) (h:pre_dv k0 us vs qs i):∃ r:List Int×List Int×Int,LoopTo Tryz.prog (lb 152 p_dv) (sh_dv k0 us vs qs i) (hp_dv k0 us vs qs i) (.exit 0) (sh_dv k0 r.1 vs r.2.1 r.2.2) (hp_dv k0 r.1 vs r.2.1 r.2.2)∧post_dv k0 us vs qs i r:=by
 obtain ⟨v1,hu,hv,hq,hk,hL,hv1,hv1n,ev1,hl,hlt,rfl⟩:=h
 exact dv_go k0 vs hv hk v1 hv1 hv1n ev1 us.length hL (vL us) qs.length qs.length us qs hu hq rfl rfl hl (Nat.le_refl _) hlt ⟨by rw [List.drop_of_length_le (Nat.le_refl _),vL_nil,Nat.mul_zero,Nat.zero_mul];rfl⟩
def told_dv (κ:Int→List Int→List Int→List Int→Int→Bool) (φ:Int→List Int→List Int→List Int→Int→List Int×List Int×Int) (T:List AV) (H:Hp):Option (Bool×Ex×List AV×Hp):=
 match lget T 8,lget T 9,lget T 10,lget T 11,lget T 12,H with
 | .val (.int .i64 k0), .sl false 129 0 0 m_us, .lst false 129 m_vs f_vs, .sl false 129 1 0 m_qs, .val (.int .i64 i), [.row (.ints .u32 us) 129 .live, .row (.ints .u32 qs) 129 .live]=>bif T.length==73 then some (okB m_vs f_vs&&decide (m_us=us.length)&&decide (m_qs=qs.length)&&κ k0 us (rowOf m_vs f_vs) qs i, .exit 0,sh_dv k0 ((φ k0 us (rowOf m_vs f_vs) qs i).1) (rowOf m_vs f_vs) ((φ k0 us (rowOf m_vs f_vs) qs i).2.1) ((φ k0 us (rowOf m_vs f_vs) qs i).2.2),hp_dv k0 ((φ k0 us (rowOf m_vs f_vs) qs i).1) (rowOf m_vs f_vs) ((φ k0 us (rowOf m_vs f_vs) qs i).2.1) ((φ k0 us (rowOf m_vs f_vs) qs i).2.2)) else none
 | _,_,_,_,_,_=>none
abbrev KT_dv:Type:=Int→List Int→List Int→List Int→Int→Bool
abbrev FT_dv:Type:=Int→List Int→List Int→List Int→Int→List Int×List Int×Int
def LL_dv (κ:KT_dv) (φ:FT_dv) (L:LTab):LTab:=addLn 0 152 p_dv [8,9,10,11,12] (told_dv κ φ) L
def phi_dv (k0:Int) (us:List Int) (vs:List Int) (qs:List Int) (i:Int):List Int×List Int×Int:=Classical.epsilon fun ρ=>LoopTo Tryz.prog (lb 152 p_dv) (sh_dv k0 us vs qs i) (hp_dv k0 us vs qs i) (.exit 0) (sh_dv k0 (ρ.1) vs (ρ.2.1) (ρ.2.2)) (hp_dv k0 (ρ.1) vs (ρ.2.1) (ρ.2.2))∧post_dv k0 us vs qs i ρ
theorem phi_dv_spec (k0:Int) (us:List Int) (vs:List Int) (qs:List Int) (i:Int) (h:pre_dv k0 us vs qs i):LoopTo Tryz.prog (lb 152 p_dv) (sh_dv k0 us vs qs i) (hp_dv k0 us vs qs i) (.exit 0) (sh_dv k0 ((phi_dv k0 us vs qs i).1) vs ((phi_dv k0 us vs qs i).2.1) ((phi_dv k0 us vs qs i).2.2)) (hp_dv k0 ((phi_dv k0 us vs qs i).1) vs ((phi_dv k0 us vs qs i).2.1) ((phi_dv k0 us vs qs i).2.2))∧post_dv k0 us vs qs i (phi_dv k0 us vs qs i):=Classical.epsilon_spec (loop_dv k0 us vs qs i h)
def cond_dv (k0:Int) (us:List Int) (vs:List Int) (qs:List Int) (i:Int):Bool:= @decide (pre_dv k0 us vs qs i) (Classical.propDecidable _)
theorem cond_dv_eq (k0:Int) (us:List Int) (vs:List Int) (qs:List Int) (i:Int) (h:pre_dv k0 us vs qs i):cond_dv k0 us vs qs i=true:= @decide_eq_true _ (Classical.propDecidable _) h
theorem told_dv_ok (T:List AV) (H:Hp) (e:Ex) (T1:List AV) (H1:Hp) (h:told_dv cond_dv phi_dv T H=some (true,e,T1,H1)):V.Ends Tryz.prog false 0 0 (.loop (lb 152 p_dv)) T H e T1 H1:=by
 unfold told_dv at h
 split at h
 ·rename_i k0 m_us m_vs f_vs m_qs i us qs h8 h9 h10 h11 h12
  rw [Bool.cond_eq_ite] at h
  split at h
  ·rename_i hlen
   rw [beq_iff_eq] at hlen
   simp only [Option.some.injEq,Prod.mk.injEq,Bool.and_eq_true,decide_eq_true_eq] at h
   obtain ⟨⟨⟨⟨k1,k2⟩,k3⟩,k4⟩,rfl,rfl,rfl⟩:=h
   have kc:= @of_decide_eq_true _ (Classical.propDecidable _) k4
   refine Ends.pre (phi_dv_spec k0 us (rowOf m_vs f_vs) qs i kc).1.ends (fun α B w D ys hr=>slots_rel hlen (fun p hp y hy=> ?_) hr)
   simp only [List.mem_cons,List.not_mem_nil,or_false] at hp
   rcases hp with rfl | rfl | rfl | rfl | rfl
   ·rw [h8] at hy;exact hy
   ·rw [h9] at hy;rw [← k2];exact hy
   ·rw [h10] at hy;rw [rowOf_len];exact row_norm cells129 k1 hy
   ·rw [h11] at hy;rw [← k3];exact hy
   ·rw [h12] at hy;exact hy
  ·cases h
 ·cases h
theorem LL_dv_ok {L:LTab} (h:LOk Tryz.prog L):LOk Tryz.prog (LL_dv cond_dv phi_dv L):=h.add2n body_dv told_dv_ok
end
end Go.Proofs.YtamcpiicmfielaaGreat.L
namespace Go.Proofs.YtamcpiicmfielaaGreat.L
open Go Go.V Go.RowKit Go.Proofs.YtamcpiicmfielaaGreat.Sp Go.Proofs.YtamcpiicmfielaaGreat.F Go.Proofs.YtamcpiicmfielaaGreatW.PrintWords
open Go.Proofs (Tryz.prog)
noncomputable section
def CDv (S:Sg):FuncId→List AV→Option (Bool×AV):=addC 107 (tCompareL S) (addC 169 (tShort S) (addC 140 (tTrim S) (addC 170 (tLead S) (addC 158 (tUnshift S) noC))))
theorem CDv_ok:Meets Tryz.prog (CDv sg0):=(((((meets_none _).add eUnshift).add eLead).add eTrim).add eShort).add eCompareL
def EDv (S:Sg) (κ1:KT_shift0) (φ1:FT_shift0) (κ2:KT_shift1) (φ2:FT_shift1) (κ3:KT_dv) (φ3:FT_dv):Env:= ⟨CDv S,Kall,LL_shift0 κ1 φ1 (LL_shift1 κ2 φ2 (LL_dv κ3 φ3 noL))⟩
theorem divide_call (S:Sg) (κ1:KT_shift0) (φ1:FT_shift0) (κ2:KT_shift1) (φ2:FT_shift1) (κ3:KT_dv) (φ3:FT_dv) (xs ys:List Int):letI q_4:=(↑(S.bl (ys.getD ((↑ys.length:Int) - (1:Int)).toNat (0:Int)).toNat):Int);letI q_9:=((↑xs.length:Int)+(1:Int));letI q_3:=(φ1 ((32:Int) - q_4) (List.replicate q_9.toNat (0:Int)) (rowOf xs.length (lim xs)) (↑xs.length:Int) (0:Int));letI q_10:=((↑ys.length:Int)+(1:Int));letI q_2:=(φ2 ((32:Int) - q_4) (List.replicate q_10.toNat (0:Int)) (rowOf ys.length (lim ys)) (↑ys.length:Int) (0:Int) q_3.fst);letI q_6:=(S.num q_2.fst.length (lim q_2.fst));letI q_5:=((↑q_3.fst.length:Int) - (↑(S.len q_6):Int));letI q_1:=(φ3 ((32:Int) - q_4) q_3.fst (rowOf (S.len q_6) (S.row q_6)) (List.replicate q_5.toNat (0:Int)) ((↑q_5.toNat:Int) - (1:Int)));letI q_7:=(S.num q_1.fst.length (lim q_1.fst));letI q_8:=(lim [(↑(S.num xs.length (lim xs) % (ys.getD (0:Nat) (0:Int)).toNat):Int)]);
  (callA Tryz.prog (EDv S κ1 φ1 κ2 φ2 κ3 φ3) 10 10 152 [.lst false 129 xs.length (lim xs), .lst false 129 ys.length (lim ys)]=(bif S.can xs.length (lim xs)&&S.can ys.length (lim ys) then (bif decide (S.cmp (S.num xs.length (lim xs)) (S.num ys.length (lim ys)) < (0:Int)) then some (.tup [(.val (.slice .none 0 0)),(.lst false 129 xs.length (lim xs))]) else (bif decide ((↑ys.length:Int)=(1:Int)) then (bif decide ((0:Int) < (↑ys.length:Int)) then (bif S.okr xs.length (lim xs)&&inU (ys.getD (0:Nat) (0:Int))&&decide ((0:Int) < ys.getD (0:Nat) (0:Int)) then (bif S.okr (1:Nat) q_8 then some (.tup [(.lst false 129 (S.len (S.num xs.length (lim xs) / (ys.getD (0:Nat) (0:Int)).toNat)) (S.row (S.num xs.length (lim xs) / (ys.getD (0:Nat) (0:Int)).toNat))),(.lst false 129 (S.len (S.num (1:Nat) q_8)) (S.row (S.num (1:Nat) q_8)))]) else none) else none) else none) else (bif inR IntKind.i64 ((↑ys.length:Int) - (1:Int)) then (bif decide ((0:Int)≤(↑ys.length:Int) - (1:Int))&&decide ((↑ys.length:Int) - (1:Int) < (↑ys.length:Int)) then (bif inU (ys.getD ((↑ys.length:Int) - (1:Int)).toNat (0:Int)) then (bif inR IntKind.i64 q_9 then (bif decide ((↑xs.length:Int)+(1:Int)≤(↑xs.length:Int)+(1:Int))&&decide ((4:Int)*q_9≤(281474976710656:Int))&&decide ((↑xs.length:Int)+(1:Int)≤(9223372036854775807:Int)) then (bif okB xs.length (lim xs)&&decide (q_9.toNat=(List.replicate q_9.toNat (0:Int)).length)&&κ1 ((32:Int) - q_4) (List.replicate q_9.toNat (0:Int)) (rowOf xs.length (lim xs)) (↑xs.length:Int) (0:Int) then (bif inR IntKind.i64 q_10 then (bif decide ((↑ys.length:Int)+(1:Int)≤(↑ys.length:Int)+(1:Int))&&decide ((4:Int)*q_10≤(281474976710656:Int))&&decide ((↑ys.length:Int)+(1:Int)≤(9223372036854775807:Int)) then (bif okB ys.length (lim ys)&&decide (q_10.toNat=(List.replicate q_10.toNat (0:Int)).length)&&κ2 ((32:Int) - q_4) (List.replicate q_10.toNat (0:Int)) (rowOf ys.length (lim ys)) (↑ys.length:Int) (0:Int) q_3.fst then (bif decide ((0:Nat)+q_2.fst.length*(1:Nat)≤q_2.fst.length) then (bif S.okr q_2.fst.length (lim q_2.fst) then (bif inR IntKind.i64 q_5 then (bif decide ((0:Int)≤(↑q_3.fst.length:Int) - (↑(S.len q_6):Int))&&decide ((↑q_3.fst.length:Int) - (↑(S.len q_6):Int)≤(↑q_3.fst.length:Int) - (↑(S.len q_6):Int))&&decide ((4:Int)*q_5≤(281474976710656:Int))&&decide ((↑q_3.fst.length:Int) - (↑(S.len q_6):Int)≤(9223372036854775807:Int)) then (bif inR IntKind.i64 ((↑q_5.toNat:Int) - (1:Int)) then (bif okB (S.len q_6) (S.row q_6)&&decide (q_3.fst.length=q_3.fst.length)&&decide (q_5.toNat=(List.replicate q_5.toNat (0:Int)).length)&&κ3 ((32:Int) - q_4) q_3.fst (rowOf (S.len q_6) (S.row q_6)) (List.replicate q_5.toNat (0:Int)) ((↑q_5.toNat:Int) - (1:Int)) then (bif decide ((0:Nat)+q_1.snd.fst.length*(1:Nat)≤q_1.snd.fst.length) then (bif S.okr q_1.snd.fst.length (lim q_1.snd.fst) then (bif decide ((0:Nat)+q_1.fst.length*(1:Nat)≤q_1.fst.length) then (bif S.okr q_1.fst.length (lim q_1.fst) then (bif S.okr (S.len q_7) (S.row q_7)&&decide ((0:Int)≤(32:Int) - q_4)&&decide ((32:Int) - q_4≤(32:Int)) then some (.tup [(.lst false 129 (S.len (S.num q_1.snd.fst.length (lim q_1.snd.fst))) (S.row (S.num q_1.snd.fst.length (lim q_1.snd.fst)))),(.lst false 129 (S.len (S.num (S.len q_7) (S.row q_7) / (2:Nat) ^ ((32:Int) - q_4).toNat)) (S.row (S.num (S.len q_7) (S.row q_7) / (2:Nat) ^ ((32:Int) - q_4).toNat)))]) else none) else none) else none) else none) else none) else none) else none) else none) else none) else none) else none) else none) else none) else none) else none) else none) else none) else none) else none) else none))) else none)):=by kernel_rfl
theorem okr_len {n:Nat} (h:(toL n).length≤17592186044416):sg0.okr (toL n).length (lim (toL n))=true:=by
 show (okB (toL n).length (lim (toL n))&&decide ((toL n).length≤17592186044416))=true
 rw [okB_enc,decide_eq_true h];rfl
theorem can_len {n:Nat} (h:(toL n).length≤17592186044416):sg0.can (toL n).length (lim (toL n))=true:=by
 show (canB (toL n).length (lim (toL n))&&decide ((toL n).length≤17592186044416))=true
 rw [canB_enc,decide_eq_true h];rfl
theorem num_len (n:Nat):sg0.num (toL n).length (lim (toL n))=n:=num_row n
theorem cmp_eq (a b:Nat):sg0.cmp a b=if a < b then -1 else if b < a then 1 else 0:=rfl
abbrev EDv0:Env:=EDv sg0 cond_shift0 phi_shift0 cond_shift1 phi_shift1 cond_dv phi_dv
abbrev divC (a b:Nat):Option AV:=callA Tryz.prog EDv0 10 10 152 [.lst false 129 (toL a).length (lim (toL a)), .lst false 129 (toL b).length (lim (toL b))]
theorem div_small (a b:Nat) (h:a < b) (ha:(toL a).length≤8796093022208) (hb:(toL b).length≤8796093022208):divC a b=some (.tup [.val (.slice none 0 0), .lst false 129 (toL a).length (lim (toL a))]):=by
 show callA _ _ _ _ _ _=_
 rw [divide_call,can_len (by omega),can_len (by omega),num_len,num_len,cmp_eq,if_pos h]
 rfl
theorem div_one (a b:Nat) (h:¬ a < b) (hb0:0 < b) (h1:(toL b).length=1) (ha:(toL a).length≤8796093022208) (hb:(toL b).length≤8796093022208):divC a b=some (.tup [sg0.lmb (a / b),sg0.lmb (a % b)]):=by
 have hbne:toL b≠ []:=fun e=>by have:=(toL_nil_iff b).1 e;omega
 obtain ⟨t,ht,et,rt⟩:=getD_limb (okL_toL b) 0 (by omega)
 have ht0:0 < t:=by
  have:=trim_toL b hbne
  rw [List.getLast_eq_getElem] at this
  simp only [h1] at this
  rw [et] at this
  omega
 have hbt:b=t:=by
  have h2:=vL_take_add (toL b) 0 (by omega)
  rw [List.drop_eq_getElem_cons (show 0 < (toL b).length by omega),et,List.drop_of_length_le (by omega),vL_cons,vL_nil,vL_toL] at h2
  simp [vL_nil] at h2
  exact h2
 have hc:¬ sg0.cmp a b < 0:=by rw [cmp_eq,if_neg h];split <;> omega
 have hm:a % t < t:=Nat.mod_lt a ht0
 have hok1:sg0.okr 1 (lim [((a % t:Nat):Int)])=true:=okr_lim (zs:= [((a % t:Nat):Int)]) (by rw [okL_cons];exact ⟨by omega,okL_nil⟩) (by simp)
 have hnum1:sg0.num 1 (lim [((a % t:Nat):Int)])=a % t:=by
  have:=num_lim [((a % t:Nat):Int)]
  rw [vL_cons,vL_nil,Int.toNat_natCast,Nat.mul_zero,Nat.add_zero] at this
  exact this
 show callA _ _ _ _ _ _=_
 rw [divide_call]
 simp only [num_len,rt,Int.toNat_natCast,hnum1]
 rw [can_len (by omega),can_len (by omega),dF hc,dT (show ((toL b).length:Int)=1 by omega),dT (show (0:Int) < ((toL b).length:Int) by omega),okr_len (by omega),inU_in ht,dT (show (0:Int) < (t:Int) by omega),hok1,hbt]
 rfl
theorem div_long (a b:Nat) (hab:¬ a < b) (hb0:0 < b) (h1:¬ (toL b).length=1) (ha:(toL a).length≤8796093022208) (hb:(toL b).length≤8796093022208):divC a b=some (.tup [sg0.lmb (a / b),sg0.lmb (a % b)]):=by
 have hc:¬ sg0.cmp a b < 0:=by rw [cmp_eq,if_neg hab];split <;> omega
 have hblen:(toL b).length≤(toL a).length:=len_toL_le (Nat.lt_of_le_of_lt (by omega) (lt_of_len_toL (Nat.le_refl _)))
 have hbne:toL b≠ []:=fun e=>by have:=(toL_nil_iff b).1 e;omega
 have hbpos:0 < (toL b).length:=List.length_pos_iff.2 hbne
 have hlast:(toL b).length - 1 < (toL b).length:=by omega
 obtain ⟨t,ht,et,rt⟩:=getD_limb (okL_toL b) _ hlast
 have ht0:0 < t:=by
  have:=trim_toL b hbne
  rw [List.getLast_eq_getElem,et] at this
  omega
 have hk:2≤(toL b).length:=by omega
 have hbl:blen t≤32:=blen_le (m:=32) ht
 have hbl0:0 < blen t:=by
  rcases Nat.eq_zero_or_pos (blen t) with h | h
  ·have:=(blen_is t).1
   rw [h] at this
   omega
  ·exact h
 have hn:32 - blen t < 32:=by omega
 have h2n:2 ^ (32 - blen t)*2 ^ blen t=4294967296:=by rw [← Nat.pow_add,show 32 - blen t+blen t=32 by omega]
 have hhalf:2 ^ (32 - blen t)*2 ^ (blen t - 1)=2147483648:=by rw [← Nat.pow_add,show 32 - blen t+(blen t - 1)=31 by omega]
 have htn1:=Nat.mul_le_mul_left (2 ^ (32 - blen t)) ((blen_is t).2 hbl0)
 have htn2:=Nat.mul_lt_mul_of_pos_left (blen_is t).1 (Nat.two_pow_pos (32 - blen t))
 rw [hhalf] at htn1
 rw [h2n] at htn2
 have hn31:2 ^ (32 - blen t)≤2 ^ 31:=Nat.pow_le_pow_right (by decide) (by omega)
 have hn0:=Nat.two_pow_pos (32 - blen t)
 have hbv:=vL_take_add (toL b) ((toL b).length - 1) (by omega)
 rw [List.drop_eq_getElem_cons hlast,et,List.drop_of_length_le (by omega),vL_cons,vL_nil,vL_toL,Int.toNat_natCast,Nat.mul_zero,Nat.add_zero] at hbv
 have hblow:=vL_lt (okL_take (okL_toL b) ((toL b).length - 1))
 rw [List.length_take,Nat.min_eq_left (by omega)] at hblow
 have hlo:4294967296 ^ ((toL b).length - 1)*2147483648≤2 ^ (32 - blen t)*b:=by
  have e:2 ^ (32 - blen t)*(4294967296 ^ ((toL b).length - 1)*t)≤2 ^ (32 - blen t)*b:=Nat.mul_le_mul_left _ (by omega)
  refine Nat.le_trans ?_ e
  rw [Nat.mul_left_comm]
  exact Nat.mul_le_mul_left _ htn1
 have hhi:2 ^ (32 - blen t)*b < 4294967296 ^ (toL b).length:=by
  have e1:b < 4294967296 ^ ((toL b).length - 1)*(t+1):=by
   rw [Nat.mul_add,Nat.mul_one];omega
  have e2:2 ^ (32 - blen t)*(t+1)≤4294967296:=by
   have:t+1≤2 ^ blen t:=(blen_is t).1
   have:=Nat.mul_le_mul_left (2 ^ (32 - blen t)) this
   rwa [h2n] at this
  have e3:=Nat.mul_lt_mul_of_pos_left e1 hn0
  rw [Nat.mul_left_comm] at e3
  have e4:=Nat.mul_le_mul_left (4294967296 ^ ((toL b).length - 1)) e2
  have e5:4294967296 ^ (toL b).length=4294967296 ^ ((toL b).length - 1)*4294967296:=by rw [← Nat.pow_succ];exact congrArg (fun z=>4294967296 ^ z) (by omega)
  rw [e5]
  exact Nat.lt_of_lt_of_le e3 e4
 have hvlen:(toL (2 ^ (32 - blen t)*b)).length=(toL b).length:=by
  have h2:=len_toL_le hhi
  rcases Nat.lt_or_ge (toL (2 ^ (32 - blen t)*b)).length (toL b).length with h3 | h3
  ·exfalso
   have h4:=lt_of_len_toL (n:=2 ^ (32 - blen t)*b) (m:=(toL b).length - 1) (by omega)
   have h5:4294967296 ^ ((toL b).length - 1)*1≤4294967296 ^ ((toL b).length - 1)*2147483648:=Nat.mul_le_mul_left _ (by decide)
   rw [Nat.mul_one] at h5
   exact absurd (Nat.lt_of_lt_of_le h4 (Nat.le_trans h5 hlo)) (Nat.lt_irrefl _)
  ·omega
 have hvlast:(toL (2 ^ (32 - blen t)*b)).length - 1 < (toL (2 ^ (32 - blen t)*b)).length:=by omega
 obtain ⟨v1,hv1,ev1,rv1⟩:=getD_limb (okL_toL (2 ^ (32 - blen t)*b)) _ hvlast
 have hv1n:2147483648≤v1:=by
  have h2:=vL_take_add (toL (2 ^ (32 - blen t)*b)) ((toL (2 ^ (32 - blen t)*b)).length - 1) (by omega)
  rw [List.drop_eq_getElem_cons hvlast,ev1,List.drop_of_length_le (by omega),vL_cons,vL_nil,vL_toL,Int.toNat_natCast,Nat.mul_zero,Nat.add_zero] at h2
  have h3:=vL_lt (okL_take (okL_toL (2 ^ (32 - blen t)*b)) ((toL (2 ^ (32 - blen t)*b)).length - 1))
  rw [List.length_take,Nat.min_eq_left (by omega)] at h3
  rw [← hvlen] at hlo
  rcases Nat.lt_or_ge v1 2147483648 with h4 | h4
  ·exfalso
   have h5:=Nat.mul_le_mul_left (4294967296 ^ ((toL (2 ^ (32 - blen t)*b)).length - 1)) (show v1+1≤2147483648 by omega)
   rw [Nat.mul_add,Nat.mul_one] at h5
   omega
  ·exact h4
 have hp1:pre_shift0 ((32 - blen t:Nat):Int) (List.replicate ((toL a).length+1) 0) (toL a) (toL a).length 0:= ⟨okL_toL a,okL_replicate _,rfl,by omega,rfl,rfl,_,rfl,hn⟩
 obtain ⟨_,u1,u2,u3⟩:=phi_shift0_spec _ _ _ _ _ hp1
 have k1:=cond_shift0_eq _ _ _ _ _ hp1
 rw [Int.toNat_natCast,vL_toL] at u3
 have e1:(32:Int) - (sg0.bl t:Int)=((32 - blen t:Nat):Int):=by
  show (32:Int) - (blen t:Int)=_
  omega
 have e2:((toL b).length:Int) - 1=(((toL b).length - 1:Nat):Int):=by omega
 have e3:((toL a).length:Int)+1=(((toL a).length+1:Nat):Int):=by omega
 have e4:((toL b).length:Int)+1=(((toL b).length+1:Nat):Int):=by omega
 show callA _ _ _ _ _ _=_
 rw [divide_call]
 simp only [num_len,e2,Int.toNat_natCast,rt,e1,e3,e4,rowOf_lim',List.length_replicate,eq_self,decide_true,Nat.mul_one,Nat.zero_add,k1]
 generalize phi_shift0 ((32 - blen t:Nat):Int) (List.replicate ((toL a).length+1) 0) (toL a) (toL a).length 0=U at*
 have hp2:pre_shift1 ((32 - blen t:Nat):Int) (List.replicate ((toL b).length+1) 0) (toL b) (toL b).length 0 U.1:= ⟨okL_toL b,okL_replicate _,rfl,by omega,rfl,rfl,_,rfl,hn⟩
 obtain ⟨_,w1,w2,w3⟩:=phi_shift1_spec _ _ _ _ _ _ hp2
 have k2:=cond_shift1_eq _ _ _ _ _ _ hp2
 rw [Int.toNat_natCast,vL_toL] at w3
 simp only [k2]
 generalize phi_shift1 ((32 - blen t:Nat):Int) (List.replicate ((toL b).length+1) 0) (toL b) (toL b).length 0 U.1=Wr at*
 have hWn:sg0.num Wr.1.length (lim Wr.1)=2 ^ (32 - blen t)*b:=by rw [num_lim,w3]
 simp only [hWn]
 have hlenb:sg0.len (2 ^ (32 - blen t)*b)=(toL b).length:=hvlen
 have hrowb:rowOf (sg0.len (2 ^ (32 - blen t)*b)) (sg0.row (2 ^ (32 - blen t)*b))=toL (2 ^ (32 - blen t)*b):=rowOf_enc _
 have hokb:okB (sg0.len (2 ^ (32 - blen t)*b)) (sg0.row (2 ^ (32 - blen t)*b))=true:=okB_enc _
 have e5:(U.1.length:Int) - ((sg0.len (2 ^ (32 - blen t)*b):Nat):Int)=(((toL a).length+1 - (toL b).length:Nat):Int):=by rw [hlenb];omega
 simp only [hrowb,hokb,e5,Int.toNat_natCast]
 have hstart:vL U.1 < 4294967296 ^ ((toL a).length+1 - (toL b).length)*vL (toL (2 ^ (32 - blen t)*b)):=by
  rw [u3,vL_toL]
  have e1:a < 4294967296 ^ (toL a).length:=lt_of_len_toL (Nat.le_refl _)
  have e2:=Nat.mul_le_mul_left (4294967296 ^ ((toL a).length+1 - (toL b).length)) hlo
  rw [← Nat.mul_assoc,← Nat.pow_add,show (toL a).length+1 - (toL b).length+((toL b).length - 1)=(toL a).length by omega] at e2
  have e3:2 ^ (32 - blen t)*a < 2 ^ (32 - blen t)*4294967296 ^ (toL a).length:=Nat.mul_lt_mul_of_pos_left e1 hn0
  have e4:2 ^ (32 - blen t)*4294967296 ^ (toL a).length≤4294967296 ^ (toL a).length*2147483648:=by
   rw [Nat.mul_comm];exact Nat.mul_le_mul_left _ hn31
  exact Nat.lt_of_lt_of_le e3 (Nat.le_trans e4 e2)
 have hp3:pre_dv ((32 - blen t:Nat):Int) U.1 (toL (2 ^ (32 - blen t)*b)) (List.replicate ((toL a).length+1 - (toL b).length) 0) ((((toL a).length+1 - (toL b).length:Nat):Int) - 1):= ⟨v1,u1,okL_toL _,okL_replicate _,by omega,by omega,hv1,hv1n,rv1,by rw [List.length_replicate,hvlen];omega,by rw [List.length_replicate];exact hstart,by rw [List.length_replicate]⟩
 obtain ⟨_,c1,c2,c3,c4,c5,c6⟩:=phi_dv_spec _ _ _ _ _ hp3
 have k3:=cond_dv_eq _ _ _ _ _ hp3
 rw [u3,vL_toL,Nat.mul_div_mul_left _ _ hn0] at c5
 rw [u3,vL_toL,Nat.mul_mod_mul_left] at c6
 rw [List.length_replicate] at c4
 simp only [k3,List.length_replicate,eq_self,decide_true]
 generalize phi_dv ((32 - blen t:Nat):Int) U.1 (toL (2 ^ (32 - blen t)*b)) (List.replicate ((toL a).length+1 - (toL b).length) 0) ((((toL a).length+1 - (toL b).length:Nat):Int) - 1)=Q at*
 have hlt6:(toL (vL Q.1)).length≤17592186044416:=Nat.le_trans (len_toL_le (vL_lt c1)) (by omega)
 have n1:sg0.num Q.2.1.length (lim Q.2.1)=a / b:=by rw [num_lim,c5]
 have n2:sg0.num Q.1.length (lim Q.1)=vL Q.1:=num_lim _
 have n3:sg0.num (sg0.len (vL Q.1)) (sg0.row (vL Q.1))=vL Q.1:=num_row _
 have n4:vL Q.1 / 2 ^ (32 - blen t)=a % b:=by rw [c6,Nat.mul_div_cancel_left _ hn0]
 have n5:sg0.okr (sg0.len (vL Q.1)) (sg0.row (vL Q.1))=true:=okr_len hlt6
 have s1:inR .i64 (((toL b).length - 1:Nat):Int)=true:=i64L _ (by omega)
 have s2:decide ((0:Int)≤(((toL b).length - 1:Nat):Int))=true:=dT (by omega)
 have s3:decide ((((toL b).length - 1:Nat):Int) < ((toL b).length:Int))=true:=dT (by omega)
 have s4:inR .i64 (((toL a).length+1:Nat):Int)=true:=i64L _ (by omega)
 have s5:decide ((((toL a).length+1:Nat):Int)≤(((toL a).length+1:Nat):Int))=true:=dT (by omega)
 have s6:decide ((4:Int)*(((toL a).length+1:Nat):Int)≤281474976710656)=true:=dT (by omega)
 have s7:decide ((((toL a).length+1:Nat):Int)≤9223372036854775807)=true:=dT (by omega)
 have s8:inR .i64 (((toL b).length+1:Nat):Int)=true:=i64L _ (by omega)
 have s9:decide ((((toL b).length+1:Nat):Int)≤(((toL b).length+1:Nat):Int))=true:=dT (by omega)
 have s10:decide ((4:Int)*(((toL b).length+1:Nat):Int)≤281474976710656)=true:=dT (by omega)
 have s11:decide ((((toL b).length+1:Nat):Int)≤9223372036854775807)=true:=dT (by omega)
 have s12:decide (Wr.1.length≤Wr.1.length)=true:=dT (by omega)
 have s13:sg0.okr Wr.1.length (lim Wr.1)=true:=okr_lim w1 (by omega)
 have s14:inR .i64 (((toL a).length+1 - (toL b).length:Nat):Int)=true:=i64L _ (by omega)
 have s15:decide ((0:Int)≤(((toL a).length+1 - (toL b).length:Nat):Int))=true:=dT (by omega)
 have s16:decide ((((toL a).length+1 - (toL b).length:Nat):Int)≤(((toL a).length+1 - (toL b).length:Nat):Int))=true:=dT (by omega)
 have s17:decide ((4:Int)*(((toL a).length+1 - (toL b).length:Nat):Int)≤281474976710656)=true:=dT (by omega)
 have s18:decide ((((toL a).length+1 - (toL b).length:Nat):Int)≤9223372036854775807)=true:=dT (by omega)
 have s19:inR .i64 ((((toL a).length+1 - (toL b).length:Nat):Int) - 1)=true:=i64T (by omega)
 have s20:decide (Q.2.1.length≤Q.2.1.length)=true:=dT (by omega)
 have s21:sg0.okr Q.2.1.length (lim Q.2.1)=true:=okr_lim c2 (by omega)
 have s22:decide (Q.1.length≤Q.1.length)=true:=dT (by omega)
 have s23:sg0.okr Q.1.length (lim Q.1)=true:=okr_lim c1 (by omega)
 have s24:decide ((0:Int)≤((32 - blen t:Nat):Int))=true:=dT (by omega)
 have s25:decide (((32 - blen t:Nat):Int)≤32)=true:=dT (by omega)
 have s26:inU (t:Int)=true:=inU_in ht
 have s27:decide (((toL b).length:Int)=1)=false:=dF (by omega)
 have s28:decide (sg0.cmp a b < 0)=false:=dF hc
 have s29:sg0.can (toL a).length (lim (toL a))=true:=can_len (by omega)
 have s30:sg0.can (toL b).length (lim (toL b))=true:=can_len (by omega)
 have s31:okB (toL a).length (lim (toL a))=true:=okB_enc a
 have s32:okB (toL b).length (lim (toL b))=true:=okB_enc b
 rw [s29,s30,s28,s27]
 simp only [s1,s2,s3,s4,s5,s6,s7,s8,s9,s10,s11,s12,s13,s14,s15,s16,s17,s18,s19,s20,s21,s22,s23,s24,s25,s26,s31,s32,n1,n2,n3,n5,n4]
 rfl
def tDivide (S:Sg) (args:List AV):Option (Bool×AV):=match args with | [.lst _ 129 m f, .lst _ 129 n g]=>some (S.can m f&&S.can n g&&S.oks m f&&S.oks n g&&decide (0 < S.num n g), .tup [S.lmb (S.num m f / S.num n g),S.lmb (S.num m f % S.num n g)]) | _=>none
theorem eDivide:Entry Tryz.prog 152 (tDivide sg0):=by
 refine entry_to (E:=EDv0) (u:=10) (d:=10) CDv_ok (LL_shift0_ok (LL_shift1_ok (LL_dv_ok LOk.none))).ok (by kernel_rfl) (fun args r h=> ?_)
 unfold tDivide at h
 split at h
 ·rename_i fl m f fl2 n g
  simp only [Option.some.injEq,Prod.mk.injEq,Bool.and_eq_true,decide_eq_true_eq] at h
  obtain ⟨⟨⟨⟨⟨h1,h2⟩,h3⟩,h4⟩,h5⟩,rfl⟩:=h
  obtain ⟨a1,a2,a3,a4,a5⟩:=can_out h1
  obtain ⟨b1,b2,b3,b4,b5⟩:=can_out h2
  obtain ⟨_,_,a6,_⟩:=oks_out h3
  obtain ⟨_,_,b6,_⟩:=oks_out h4
  rw [a5] at a6
  rw [b5] at b6
  have hargs:∀ (B:Nat→Prop) (w:World) (ys:List Value),RelL Tryz.prog NoA B w [.lst fl 129 m f, .lst fl2 129 n g] NoD ys→RelL Tryz.prog NoA B w [.lst false 129 (toL (sg0.num m f)).length (lim (toL (sg0.num m f))), .lst false 129 (toL (sg0.num n g)).length (lim (toL (sg0.num n g)))] NoD ys:=by
   intro B w ys hr
   rw [← a5,← b5]
   obtain ⟨y,zs,rfl,q1,q2⟩:=hr
   obtain ⟨y2,zs,rfl,q3,q4⟩:=q2
   exact ⟨y,_,rfl,norm_row a1 q1,y2,_,rfl,norm_row b1 q3,q4⟩
  generalize sg0.num m f=a at*
  generalize sg0.num n g=b at*
  by_cases hlt:a < b
  ·refine ⟨_,_,div_small a b hlt a6 b6,hargs,fun B w y hr=> ?_⟩
   obtain ⟨ys,rfl,y1,zs1,e1,q1,q2⟩:=hr
   refine ⟨ys,rfl,y1,zs1,e1, ?_, ?_⟩
   ·rw [Nat.div_eq_of_lt hlt]
    have q1:y1= .slice none 0 0:=q1
    have el:sg0.len 0=0:=by show (toL 0).length=0;rw [toL_zero];rfl
    unfold Sg.lmb
    rw [el]
    exact ⟨none,0,q1,Nat.le_refl _,(fun h=>by cases h), .inl rfl⟩
   ·rw [Nat.mod_eq_of_lt hlt]
    exact q2
  ·by_cases hone:(toL b).length=1
   ·exact ⟨_,_,div_one a b hlt h5 hone a6 b6,hargs,fun B w y hr=>hr⟩
   ·exact ⟨_,_,div_long a b hlt h5 hone a6 b6,hargs,fun B w y hr=>hr⟩
 ·cases h
end
end Go.Proofs.YtamcpiicmfielaaGreat.L
