import Derived.Test.YtdnmkehncpfnnaaZHZ
import Derived.Test.YtdnmkehncpfnnaaZHX
import Derived.Test.YtdnmkehncpfnnaaZHW
import Derived.Test.YtdnmkehncpfnnaaZQB
set_option linter.unusedVariables false
set_option linter.unusedSimpArgs false
namespace Go.Proofs.Ytdnmkehncpfnnaa.L
open Go Go.V Go.RowKit Go.Proofs.Ytdnmkehncpfnnaa.Sp
open Go.Proofs (Try.prog)
noncomputable section
abbrev p_pe:List Bool:= [false,true,false,true,true]
def sh_pe (n:Nat) (ps:List Value) (n2:Nat) (ps2:List Value) (r:Bool) (z:Int) (i:Int):List AV:=slots 26 [(0, .lst false 41 n (vrow 6 ps)),(1, .lst false 41 n2 (vrow 6 ps2)),(4, .val (.bool r)),(12, .val (.int .i64 z)),(13, .val (.int .i64 i))]
def hp_pe (n:Nat) (ps:List Value) (n2:Nat) (ps2:List Value) (r:Bool) (z:Int) (i:Int):Hp:= []
theorem body_pe:subC Try.prog 12 p_pe=some (.loop (lb 12 p_pe)):=by kernel_rfl
theorem code_pe:subC Try.prog 12 (false :: p_pe)=some (lb 12 p_pe):=by kernel_rfl
theorem round_pe (n:Nat) (ps:List Value) (n2:Nat) (ps2:List Value) (r:Bool) (z:Int) (i:Int):letI q_5:=(i.toNat*(6:Nat)+(1:Nat));letI q_6:=(i.toNat*(6:Nat)+(2:Nat));letI q_1:=(strEq (asS (ps.getD q_5 undef)) (asS (ps2.getD q_5 undef))&&(strEq (asS (ps.getD q_6 undef)) (asS (ps2.getD q_6 undef))&&true));letI q_7:=(i.toNat*(6:Nat)+(4:Nat));letI q_8:=(i.toNat*(6:Nat)+(5:Nat));letI q_2:=(strEq (asS (ps.getD q_7 undef)) (asS (ps2.getD q_7 undef))&&(strEq (asS (ps.getD q_8 undef)) (asS (ps2.getD q_8 undef))&&true));letI q_3:=(i.toNat*(6:Nat)+(0:Nat));letI q_4:=(i.toNat*(6:Nat)+(3:Nat));
  (roundA Try.prog ⟨noC,Kall,noL⟩ 12 [0,1,4,12,13] (lb 12 p_pe) (false :: p_pe) (sh_pe n ps n2 ps2 r z i) (hp_pe n ps n2 ps2 r z i)=(bif decide (i < z) then (bif decide ((0:Int)≤i)&&decide (i < (↑n:Int)) then (bif decide ((0:Int)≤i)&&decide (i < (↑n2:Int)) then (bif isB (ps.getD q_3 undef)&&isB (ps2.getD q_3 undef) then (bif isS (ps.getD q_5 undef)&&isS (ps2.getD q_5 undef) then (bif isS (ps.getD q_6 undef)&&isS (ps2.getD q_6 undef) then (bif isB (ps.getD q_4 undef)&&isB (ps2.getD q_4 undef) then (bif isS (ps.getD q_7 undef)&&isS (ps2.getD q_7 undef) then (bif isS (ps.getD q_8 undef)&&isS (ps2.getD q_8 undef) then (bif bif true then !(asB (ps.getD q_3 undef)==asB (ps2.getD q_3 undef)&&q_1&&(asB (ps.getD q_4 undef)==asB (ps2.getD q_4 undef)&&q_2&&true)) else asB (ps.getD q_3 undef)==asB (ps2.getD q_3 undef)&&q_1&&(asB (ps.getD q_4 undef)==asB (ps2.getD q_4 undef)&&q_2&&true) then some (.ret,slots 26 [(0,(.lst false 41 n (vrow (6:Nat) ps))),(1,(.lst false 41 n2 (vrow (6:Nat) ps2))),(4,(.val (.bool false))),(12,(.val (.int .i64 z))),(13,(.val (.int .i64 i)))], []) else (bif inR IntKind.i64 (i+(1:Int)) then some (.normal,slots 26 [(0,(.lst false 41 n (vrow (6:Nat) ps))),(1,(.lst false 41 n2 (vrow (6:Nat) ps2))),(4,(.val (.bool r))),(12,(.val (.int .i64 z))),(13,(.val (.int .i64 (i+(1:Int)))))], []) else none)) else none) else none) else none) else none) else none) else none) else none) else none) else some ((.exit 0),slots 26 [(0,(.lst false 41 n (vrow (6:Nat) ps))),(1,(.lst false 41 n2 (vrow (6:Nat) ps2))),(4,(.val (.bool r))),(12,(.val (.int .i64 z))),(13,(.val (.int .i64 i)))], []))):=by kernel_rfl
theorem step_pe {n:Nat} {ps:List Value} {n2:Nat} {ps2:List Value} {r:Bool} {z:Int} {i:Int} {e:Ex} {T:List AV} {H:Hp} (h:roundA Try.prog ⟨noC,Kall,noL⟩ 12 [0,1,4,12,13] (lb 12 p_pe) (false :: p_pe) (sh_pe n ps n2 ps2 r z i) (hp_pe n ps n2 ps2 r z i)=some (e,T,H)):V.Ends Try.prog false 0 0 (lb 12 p_pe) (sh_pe n ps n2 ps2 r z i) (hp_pe n ps n2 ps2 r z i) e T H:=
 round_ends (meets_none _) loops_none mixed code_pe h
theorem pe_step {r:Bool} {n:Nat} {ps:List Value} (hl:ps.length=n*6) (i:Nat) (hi:i < n) (hn:n≤9223372036854775807) (h:okP ps i=true):V.Ends Try.prog false 0 0 (lb 12 p_pe) (sh_pe n ps n ps r (n:Int) i) (hp_pe n ps n ps r (n:Int) i) .normal (sh_pe n ps n ps r (n:Int) ((i+1:Nat):Int)) (hp_pe n ps n ps r (n:Int) ((i+1:Nat):Int)):=by
 have hr:=round_pe n ps n ps r n i
 obtain ⟨h1,h2⟩:=okP_out h
 obtain ⟨b1,b2,b3⟩:=isRat_k h1
 obtain ⟨b4,b5,b6⟩:=isRat_k h2
 simp only [Int.toNat_natCast] at hr
 rw [dT (show (i:Int) < (n:Int) by omega),dT (show (0:Int)≤(i:Int) by omega),b1,b2,b3,b4,b5,b6,i64T (z:=(i:Int)+1) (by omega)] at hr
 simp only [beq_self_eq_true,strEq_self,Bool.and_true,Bool.and_self,Bool.not_true,cond_true,cond_false] at hr
 exact step_pe hr
theorem pe_go {r:Bool} {n:Nat} {ps:List Value} (hl:ps.length=n*6) (hn:n≤9223372036854775807) (h:∀ j,j < n→okP ps j=true) (k:Nat):∀ i:Nat,n=i+k→LoopTo Try.prog (lb 12 p_pe) (sh_pe n ps n ps r (n:Int) i) (hp_pe n ps n ps r (n:Int) i) (.exit 0) (sh_pe n ps n ps r (n:Int) (n:Int)) (hp_pe n ps n ps r (n:Int) (n:Int)):=by
 induction k with
 | zero=>
  intro i hi
  have:i=n:=by omega
  subst this
  refine .last (step_pe ?_) (by intro h;cases h)
  rw [round_pe,dF (show ¬ ((i:Nat):Int) < (i:Int) by omega)]
  rfl
 | succ k ih=>
  intro i hi
  exact .more (pe_step hl i (by omega) hn (h i (by omega))) (ih (i+1) (by omega))
def pre_pe (n:Nat) (ps:List Value) (n2:Nat) (ps2:List Value) (r:Bool) (z i:Int):Prop:=i=0∧z=(n:Int)∧n2=n∧ps2=ps∧ps.length=n*6∧n≤9223372036854775807∧∀ j,j < n→okP ps j=true
def post_pe (n:Nat) (ps:List Value) (n2:Nat) (ps2:List Value) (r:Bool) (z i:Int) (ρ:Int):Prop:=True
theorem loop_pe (n:Nat) (ps:List Value) (n2:Nat) (ps2:List Value) (r:Bool) (z i:Int) (h:pre_pe n ps n2 ps2 r z i):∃ ρ:Int,LoopTo Try.prog (lb 12 p_pe) (sh_pe n ps n2 ps2 r z i) (hp_pe n ps n2 ps2 r z i) (.exit 0) (sh_pe n ps n2 ps2 r z ρ) (hp_pe n ps n2 ps2 r z ρ)∧post_pe n ps n2 ps2 r z i ρ:=by
 obtain ⟨rfl,rfl,rfl,rfl,hl,hn,h⟩:=h
 exact ⟨_,pe_go hl hn h _ 0 (Nat.zero_add _).symm,trivial⟩
def told_pe (κ:Nat→List Value→Nat→List Value→Bool→Int→Int→Bool) (φ:Nat→List Value→Nat→List Value→Bool→Int→Int→Int) (T:List AV) (H:Hp):Option (Bool×Ex×List AV×Hp):=
 match lget T 0,lget T 1,lget T 4,lget T 12,lget T 13,H with
 | .lst false 41 n f_ps, .lst false 41 n2 f_ps2, .val (.bool r), .val (.int .i64 z), .val (.int .i64 i), []=>bif T.length==26 then some (okV 6 n f_ps&&okV 6 n2 f_ps2&&κ n (rowV 6 n f_ps) n2 (rowV 6 n2 f_ps2) r z i, .exit 0,sh_pe n (rowV 6 n f_ps) n2 (rowV 6 n2 f_ps2) r z ((φ n (rowV 6 n f_ps) n2 (rowV 6 n2 f_ps2) r z i)),hp_pe n (rowV 6 n f_ps) n2 (rowV 6 n2 f_ps2) r z ((φ n (rowV 6 n f_ps) n2 (rowV 6 n2 f_ps2) r z i))) else none
 | _,_,_,_,_,_=>none
abbrev KT_pe:Type:=Nat→List Value→Nat→List Value→Bool→Int→Int→Bool
abbrev FT_pe:Type:=Nat→List Value→Nat→List Value→Bool→Int→Int→Int
def LL_pe (κ:KT_pe) (φ:FT_pe) (L:LTab):LTab:=addLn 0 12 p_pe [0,1,4,12,13] (told_pe κ φ) L
def phi_pe (n:Nat) (ps:List Value) (n2:Nat) (ps2:List Value) (r:Bool) (z:Int) (i:Int):Int:=Classical.epsilon fun ρ=>LoopTo Try.prog (lb 12 p_pe) (sh_pe n ps n2 ps2 r z i) (hp_pe n ps n2 ps2 r z i) (.exit 0) (sh_pe n ps n2 ps2 r z (ρ)) (hp_pe n ps n2 ps2 r z (ρ))∧post_pe n ps n2 ps2 r z i ρ
theorem phi_pe_spec (n:Nat) (ps:List Value) (n2:Nat) (ps2:List Value) (r:Bool) (z:Int) (i:Int) (h:pre_pe n ps n2 ps2 r z i):LoopTo Try.prog (lb 12 p_pe) (sh_pe n ps n2 ps2 r z i) (hp_pe n ps n2 ps2 r z i) (.exit 0) (sh_pe n ps n2 ps2 r z ((phi_pe n ps n2 ps2 r z i))) (hp_pe n ps n2 ps2 r z ((phi_pe n ps n2 ps2 r z i)))∧post_pe n ps n2 ps2 r z i (phi_pe n ps n2 ps2 r z i):=Classical.epsilon_spec (loop_pe n ps n2 ps2 r z i h)
def cond_pe (n:Nat) (ps:List Value) (n2:Nat) (ps2:List Value) (r:Bool) (z:Int) (i:Int):Bool:= @decide (pre_pe n ps n2 ps2 r z i) (Classical.propDecidable _)
theorem cond_pe_eq (n:Nat) (ps:List Value) (n2:Nat) (ps2:List Value) (r:Bool) (z:Int) (i:Int) (h:pre_pe n ps n2 ps2 r z i):cond_pe n ps n2 ps2 r z i=true:= @decide_eq_true _ (Classical.propDecidable _) h
theorem told_pe_ok (T:List AV) (H:Hp) (e:Ex) (T1:List AV) (H1:Hp) (h:told_pe cond_pe phi_pe T H=some (true,e,T1,H1)):V.Ends Try.prog false 0 0 (.loop (lb 12 p_pe)) T H e T1 H1:=by
 unfold told_pe at h
 split at h
 ·rename_i n f_ps n2 f_ps2 r z i h0 h1 h4 h12 h13
  rw [Bool.cond_eq_ite] at h
  split at h
  ·rename_i hlen
   rw [beq_iff_eq] at hlen
   simp only [Option.some.injEq,Prod.mk.injEq,Bool.and_eq_true,decide_eq_true_eq] at h
   obtain ⟨⟨⟨k1,k2⟩,k3⟩,rfl,rfl,rfl⟩:=h
   have kc:= @of_decide_eq_true _ (Classical.propDecidable _) k3
   refine Ends.pre (phi_pe_spec n (rowV 6 n f_ps) n2 (rowV 6 n2 f_ps2) r z i kc).1.ends (fun α B w D ys hr=>slots_rel hlen (fun p hp y hy=> ?_) hr)
   simp only [List.mem_cons,List.not_mem_nil,or_false] at hp
   rcases hp with rfl | rfl | rfl | rfl | rfl
   ·rw [h0] at hy;exact row_normV (by kernel_rfl) k1 hy
   ·rw [h1] at hy;exact row_normV (by kernel_rfl) k2 hy
   ·rw [h4] at hy;exact hy
   ·rw [h12] at hy;exact hy
   ·rw [h13] at hy;exact hy
  ·cases h
 ·cases h
theorem LL_pe_ok {L:LTab} (h:LOk Try.prog L):LOk Try.prog (LL_pe cond_pe phi_pe L):=h.add2n body_pe told_pe_ok
theorem pe_call (κ:KT_pe) (φ:FT_pe) (n:Nat) (ps:List Value):callA Try.prog ⟨noC,Kall,LL_pe κ φ noL⟩ 10 10 12 [.lst false 41 n (vrow 6 ps), .lst false 41 n (vrow 6 ps)]=
  (bif !decide ((↑n:Int)=(↑n:Int)) then some (.val (.bool false)) else (bif okV (6:Nat) n (vrow (6:Nat) ps)&&okV (6:Nat) n (vrow (6:Nat) ps)&&κ n (rowV (6:Nat) n (vrow (6:Nat) ps)) n (rowV (6:Nat) n (vrow (6:Nat) ps)) false (↑n:Int) (0:Int) then some (.val (.bool true)) else none)):=by kernel_rfl
structure Ep where
 ep:Nat→List Value→Nat→List Value→Bool
def epN (n:Nat) (ps:List Value) (n2:Nat) (ps2:List Value):Bool:= @decide (n2=n∧ps2=ps∧okpN n ps=true) (Classical.propDecidable _)
def ep0:Ep:= ⟨epN⟩
theorem epN_in {n:Nat} {ps:List Value} (h:okpN n ps=true):ep0.ep n ps n ps=true:= @decide_eq_true _ (Classical.propDecidable _) ⟨rfl,rfl,h⟩
def tEqP (M:Ep):TF:=fun args=>match args with
 | [.lst _ 41 n f, .lst _ 41 n2 f2]=>some (okV 6 n f&&(okV 6 n2 f2&&M.ep n (rowV 6 n f) n2 (rowV 6 n2 f2)), .val (.bool true))
 | _=>none
theorem eEqP:Entry Try.prog 12 (tEqP ep0):=by
 refine entry_at (by kernel_rfl) (fun args r h=> ?_)
 unfold tEqP at h
 split at h
 ·rename_i fl n f fl2 n2 f2
  simp only [Option.some.injEq,Prod.mk.injEq,Bool.and_eq_true] at h
  obtain ⟨⟨h1,h2,h5⟩,rfl⟩:=h
  obtain ⟨rfl,q1,k1⟩:= @of_decide_eq_true _ (Classical.propDecidable _) h5
  have hI:ImpL [.lst fl 41 n2 f, .lst fl2 41 n2 f2] [.lst false 41 n2 (vrow 6 (rowV 6 n2 f)), .lst false 41 n2 (vrow 6 (rowV 6 n2 f2))]:=
   ImpL.cons (Imp.row (by kernel_rfl) h1) (ImpL.cons (Imp.row (by kernel_rfl) h2) (ImpL.refl _))
  rw [q1] at hI
  have l1:=rowV_len 6 n2 f
  generalize rowV 6 n2 f=ps at*
  obtain ⟨k3,k4⟩:=okpN_out (show tg0.okp n2 ps=true from k1)
  refine ⟨⟨noC,Kall,LL_pe cond_pe phi_pe noL⟩,10,10,_,_,meets_none _,(LL_pe_ok LOk.none).ok, ?_,hI,Imp.refl _⟩
  have p1:pre_pe n2 ps n2 ps false (n2:Int) 0:= ⟨rfl,rfl,rfl,rfl,l1,k3,k4⟩
  rw [pe_call]
  simp only [rowV_vrow l1,okV_vrow,cond_pe_eq _ _ _ _ _ _ _ p1,Bool.and_self,cond_true,Bool.not_true,cond_false]
  first | rfl | (rw [dT (show (n2:Int)=n2 from rfl)];rfl)
 ·cases h
end
end Go.Proofs.Ytdnmkehncpfnnaa.L
namespace Go.Proofs.Ytdnmkehncpfnnaa.L
open Go Go.V Go.RowKit Go.Proofs.Ytdnmkehncpfnnaa.Sp
open Go.Proofs (Try.prog)
noncomputable section
def stI (ps:List Value) (s:Rat) (g:Int) (j:Nat):Int:=hg0.st (dsP ps j (j+1)) s g
def smI (ps:List Value) (s:Rat) (g:Int):Nat→Int
 | 0=>0
 | j+1=>smI ps s g j+stI ps s g j
theorem upN_is (q:Nat):q≤upN q*upN q∧(1≤upN q→(upN q - 1)*(upN q - 1) < q):=by
 obtain ⟨h1,h2⟩:=rootN_is q
 unfold upN
 split
 ·rename_i h
  refine ⟨by omega,fun h3=> ?_⟩
  have h4:(rootN q - 1)*(rootN q - 1) < rootN q*rootN q:=Nat.mul_lt_mul_of_lt_of_le (by omega) (by omega) (by omega)
  omega
 ·rename_i h
  refine ⟨by omega,fun h3=> ?_⟩
  rw [Nat.add_sub_cancel]
  omega
section
variable {x s : Rat} {g : Int}
theorem st_one:1≤hg0.st x s g:=by rw [st_eq];exact Int.le_max_left _ _
theorem gpos (hg:1≤g):0 < (g:Rat):=Rat.intCast_pos.2 (by omega)
theorem w_mul (hs:0 < s) (y:Rat):y / (s*s)*(s*s)=y:=Rat.div_mul_cancel (by have:=sq_pos hs;grind)
theorem w_nn (hx:0≤x) (hs:0 < s) (hg:1≤g):0≤(x*((g:Rat)*(g:Rat)) / (s*s)).ceil:=by
 have h1:0≤x*((g:Rat)*(g:Rat)):=Rat.mul_nonneg hx (sq_nn _)
 have h2:=sq_pos hs
 have h3:¬ x*((g:Rat)*(g:Rat)) / (s*s) < 0:=fun h=>by
  rw [Rat.div_lt_iff h2,Rat.zero_mul] at h
  grind
 have h4:= @Rat.le_ceil (x*((g:Rat)*(g:Rat)) / (s*s))
 have h5:((0:Int):Rat)≤(((x*((g:Rat)*(g:Rat)) / (s*s)).ceil:Int):Rat):=by
  show (0:Rat)≤_
  grind
 exact Rat.intCast_le_intCast.1 h5
theorem st_le (hx:0≤x) (hs:0 < s) (hg:1≤g):x*((g:Rat)*(g:Rat))≤(s*s)*(((hg0.st x s g:Int):Rat)*((hg0.st x s g:Int):Rat)):=by
 have h0:=w_nn hx hs hg
 have h1:=st_eq x s g
 have h2:= @Rat.le_ceil (x*((g:Rat)*(g:Rat)) / (s*s))
 have h3:=w_mul hs (x*((g:Rat)*(g:Rat)))
 generalize x*((g:Rat)*(g:Rat)) / (s*s)=w at*
 have h4:=(upN_is w.ceil.natAbs).1
 have h5:w.ceil≤hg0.st x s g*hg0.st x s g:=by
  have h6:((upN w.ceil.natAbs:Nat):Int)≤hg0.st x s g:=by rw [h1];exact Int.le_max_right _ _
  have h7:=Int.mul_le_mul h6 h6 (by omega) (by omega)
  have h8:(w.ceil.natAbs:Int)≤((upN w.ceil.natAbs*upN w.ceil.natAbs:Nat):Int):=by omega
  rw [Int.natCast_mul] at h8
  omega
 have h9:=Rat.intCast_le_intCast.2 h5
 rw [Rat.intCast_mul] at h9
 have h10:w≤((hg0.st x s g:Int):Rat)*((hg0.st x s g:Int):Rat):=Rat.le_trans h2 h9
 have h11:=Rat.mul_le_mul_of_nonneg_left h10 (sq_nn s)
 grind
theorem st_gt (hx:0≤x) (hs:0 < s) (hg:1≤g) (h:1 < hg0.st x s g):(s*s)*((((hg0.st x s g:Int):Rat) - 1)*(((hg0.st x s g:Int):Rat) - 1)) < x*((g:Rat)*(g:Rat)):=by
 have h0:=w_nn hx hs hg
 have h1:=st_eq x s g
 have h2:= @Rat.ceil_lt (x*((g:Rat)*(g:Rat)) / (s*s))
 have h3:=w_mul hs (x*((g:Rat)*(g:Rat)))
 generalize x*((g:Rat)*(g:Rat)) / (s*s)=w at*
 have h4:=(upN_is w.ceil.natAbs).2
 have h6:hg0.st x s g=((upN w.ceil.natAbs:Nat):Int):=by omega
 have h7:(hg0.st x s g - 1)*(hg0.st x s g - 1)+1≤w.ceil:=by
  have h8:=h4 (by omega)
  have h9:((upN w.ceil.natAbs - 1:Nat):Int)=hg0.st x s g - 1:=by omega
  have h10:(((upN w.ceil.natAbs - 1)*(upN w.ceil.natAbs - 1):Nat):Int) < (w.ceil.natAbs:Int):=by omega
  rw [Int.natCast_mul,h9] at h10
  omega
 have h9:=Rat.intCast_le_intCast.2 h7
 rw [Rat.intCast_add,Rat.intCast_mul,Rat.intCast_sub] at h9
 have h10:(((hg0.st x s g:Int):Rat) - 1)*(((hg0.st x s g:Int):Rat) - 1) < w:=by
  have e:((1:Int):Rat)=1:=rfl
  rw [e] at h9
  grind
 have h11:=Rat.mul_lt_mul_of_pos_left h10 (sq_pos hs)
 grind
theorem st_fr (hg:1≤g) (z:Int):sq0.fr z g=(z:Rat) / (g:Rat):=Rat.divInt_eq_div z g
theorem fr_gg (hg:1≤g) (z:Int):sq0.fr z g*(g:Rat)=(z:Rat):=by
 rw [st_fr hg]
 exact Rat.div_mul_cancel (by have:=gpos hg;grind)
end
section
variable {n : Nat} {ps : List Value} {sb : Bool} {sn sd : BA} {g : Int}
theorem tm_sum {s:Rat} (hg:1≤g):∀ j,tmR ps s g j=((smI ps s g j:Int):Rat) / (g:Rat)
 | 0=>by
  show (0:Rat)=((0:Int):Rat) / _
  rw [Rat.div_def]
  exact (Rat.zero_mul _).symm
 | j+1=>by
  show tmR ps s g j+sq0.fr (stI ps s g j) g=((smI ps s g j+stI ps s g j:Int):Rat) / _
  rw [tm_sum hg j,st_fr hg,Rat.intCast_add,Rat.div_def,Rat.div_def,Rat.div_def,Rat.add_mul]
theorem sm_sz (h:MkOk n ps sb sn sd g):∀ j,j < n→bs (smI ps (sq0.qv sb sn sd) g j).natAbs≤608+j
 | 0,_=>by
  have h1:bs (0:Int).natAbs≤608:=Nat.le_trans (bs_le (m:=1) (by decide)) (by omega)
  exact h1
 | j+1,hj=>by
  have h1:=sm_sz h j (by omega)
  have h2:bs (stI ps (sq0.qv sb sn sd) g j).natAbs≤608:=(h.dur hj).2.2.1
  have h3:=bs_mono (Int.natAbs_add_le (smI ps (sq0.qv sb sn sd) g j) (stI ps (sq0.qv sb sn sd) g j))
  have h4:=bs_add (smI ps (sq0.qv sb sn sd) g j).natAbs (stI ps (sq0.qv sb sn sd) g j).natAbs
  show bs (smI ps (sq0.qv sb sn sd) g j+stI ps (sq0.qv sb sn sd) g j).natAbs≤_
  omega
theorem tm_sz (h:MkOk n ps sb sn sd g) {j:Nat} (hj:j < n):szq (tmR ps (sq0.qv sb sn sd) g j)≤640:=by
 rw [tm_sum h.g.1 j]
 have h1:=sm_sz h j hj
 have h2:=szq_int (smI ps (sq0.qv sb sn sd) g j)
 have h3:=szq_div ((smI ps (sq0.qv sb sn sd) g j:Int):Rat) (g:Rat)
 have h4:=sz_g h.g
 have h5:=h.n10
 omega
theorem tm_dif {s:Rat} (hg:1≤g) (j:Nat):(tmR ps s g (j+1) - tmR ps s g j)*(g:Rat)=((stI ps s g j:Int):Rat):=by
 have h1:tmR ps s g (j+1) - tmR ps s g j=sq0.fr (stI ps s g j) g:=by
  show tmR ps s g j+sq0.fr (stI ps s g j) g - tmR ps s g j=_
  grind
 rw [h1,fr_gg hg]
theorem tm_up {s:Rat} (hg:1≤g) (j:Nat):tmR ps s g j < tmR ps s g (j+1):=by
 have h1:=tm_dif (ps:=ps) (s:=s) hg j
 have h2:((1:Int):Rat)≤((stI ps s g j:Int):Rat):=Rat.intCast_le_intCast.2 st_one
 have e:((1:Int):Rat)=1:=rfl
 have h3:=gpos hg
 rw [e] at h2
 refine Classical.byContradiction fun h=> ?_
 have h4:tmR ps s g (j+1) - tmR ps s g j≤0:=by grind
 have h5:=Rat.mul_le_mul_of_nonneg_right h4 (Rat.le_of_lt h3)
 grind
theorem dsP_nn (j:Nat):0≤dsP ps j (j+1):=Rat.add_nonneg (sq_nn _) (sq_nn _)
theorem sdx_ds (j:Nat):sdx ps j=dsP ps j (j+1):=by
 show (px ps (j+1) - px ps j)*(px ps (j+1) - px ps j)+(py ps (j+1) - py ps j)*(py ps (j+1) - py ps j)=(px ps j - px ps (j+1))*(px ps j - px ps (j+1))+(py ps j - py ps (j+1))*(py ps j - py ps (j+1))
 grind
theorem part_le {s:Rat} (hs:0 < s) (hg:1≤g) {j:Nat} (hj:j+1 < n):¬ s*s < sdx ps j / sdt (cells3 n (tmR ps s g)) j:=by
 have h1:=tm_dif (ps:=ps) (s:=s) hg j
 have h2:=tm_up (ps:=ps) (s:=s) hg j
 have h3:=gpos hg
 have h4:=st_le (dsP_nn (ps:=ps) j) hs hg
 have h4:dsP ps j (j+1)*((g:Rat)*(g:Rat))≤(s*s)*(((stI ps s g j:Int):Rat)*((stI ps s g j:Int):Rat)):=h4
 unfold sdt
 rw [qt_cells hj,qt_cells (j:=j) (by omega),sdx_ds]
 generalize hd:tmR ps s g (j+1) - tmR ps s g j=d at*
 have hd0:0 < d:=by grind
 have hdd:=sq_pos hd0
 have hgg:=sq_pos h3
 intro h
 rw [Rat.lt_div_iff hdd] at h
 have h5:=Rat.mul_lt_mul_of_pos_left h hgg
 rw [← h1] at h4
 grind
theorem speed_le {s:Rat} (hs:0 < s) (hg:1≤g):∀ k,k < n→¬ s*s < mxN (cells3 n (tmR ps s g)) ps k
 | 0,_=>by
  have:=sq_pos hs
  show ¬ s*s < 0
  grind
 | k+1,hk=>by
  unfold mxN
  split
  ·exact part_le hs hg hk
  ·exact speed_le hs hg k (by omega)
theorem made_ok (h:MkOk n ps sb sn sd g) (hn:0 < n) (hb:¬ badN n ps=true):koN n (cells3 n (tmR ps (sq0.qv sb sn sd) g)) n ps=true∧ckN n (cells3 n (tmR ps (sq0.qv sb sn sd) g)) n ps=0:=by
 have hlim:=h.n10
 constructor
 ·unfold koN
  rw [Bool.and_eq_true,List.all_eq_true,List.all_eq_true]
  exact ⟨fun j hj=>okX_cells (List.mem_range.1 hj) (by have:=tm_sz h (List.mem_range.1 hj);omega),fun j hj=>h.pts j (List.mem_range.1 hj)⟩
 ·unfold ckN
  rw [if_neg (fun h=>h rfl),if_neg (show ¬ n=0 by omega),if_neg (show ¬ 1000 < n by omega)]
  refine ckL_zero fun j hj=> ?_
  unfold ckE
  have h1:¬ (badX (cells3 n (tmR ps (sq0.qv sb sn sd) g)) j=true∨badP ps j=true):=by
   have h2:¬ badP ps j=true:=Bool.eq_false_iff.1 (none_lt hb hj)
   unfold badX
   rw [cells3_b n _ hj,cells3_n n _ hj,cells3_d n _ hj,asB_bool,asS_str,asS_str,ck_rat]
   exact fun h=>h.elim (fun h=>by cases h) h2
  have h2:¬ (0 < j∧0≤sq0.cq (qt (cells3 n (tmR ps (sq0.qv sb sn sd) g)) (j - 1)) (qt (cells3 n (tmR ps (sq0.qv sb sn sd) g)) j)):=fun ⟨h3,h4⟩=>by
   rw [cq_ge,qt_cells (by omega),qt_cells hj] at h4
   have:=tm_up (ps:=ps) (s:=sq0.qv sb sn sd) h.g.1 (j - 1)
   rw [show j - 1+1=j by omega] at this
   exact h4 this
  rw [if_neg h1,if_neg h2]
end
end
end Go.Proofs.Ytdnmkehncpfnnaa.L
namespace Go.Proofs.Ytdnmkehncpfnnaa.L
open Go Go.V Go.RowKit Go.Proofs.Ytdnmkehncpfnnaa.Sp
open Go.Proofs (Try.prog)
noncomputable section
def EBd (K:Hg) (Z:Qg):Env:= ⟨addC 16 (gPP (tVDist K Z)) (addC 14 (gRR (tQSub Z)) (addC 15 (tQOf Z) (addC 8 (tQMul Z) (addC 13 (tQSign Z) (addC 11 (tQCompare Z) noC))))),Kall,noL⟩
abbrev p_bd:List Bool:= [false,true,false,true,true,true,true,true,true,true]
def sh_bd (n:Nat) (ps:List Value) (g:Int) (r:Bool) (i:Int) (sb:Bool) (sn:ByteArray) (sd:ByteArray) (n2:Nat) (ts:List Value) (m2:Nat) (ps2:List Value) (mb:Bool) (mn:ByteArray) (md:ByteArray) (vb:Bool) (vn:ByteArray) (vd:ByteArray):List AV:=slots 153 [(0, .lst false 41 n (vrow 6 ps)),(2, .val (.int .i64 g)),(4, .ptr 0 0),(6, .val (.bool r)),(7, .ptr 1 0),(9, .ptr 2 0),(10, .ptr 3 0),(12, .val (.int .i64 i))]
def hp_bd (n:Nat) (ps:List Value) (g:Int) (r:Bool) (i:Int) (sb:Bool) (sn:ByteArray) (sd:ByteArray) (n2:Nat) (ts:List Value) (m2:Nat) (ps2:List Value) (mb:Bool) (mn:ByteArray) (md:ByteArray) (vb:Bool) (vn:ByteArray) (vd:ByteArray):Hp:= [.row (.cells [.val (.bool sb), .val (.string sn), .val (.string sd)]) 24 .live, .row (.cells [.lst false 24 n2 (vrow 3 ts), .lst false 41 m2 (vrow 6 ps2)]) 30 .live, .row (.cells [.val (.bool mb), .val (.string mn), .val (.string md)]) 24 .live, .row (.cells [.val (.bool vb), .val (.string vn), .val (.string vd)]) 24 .live]
theorem body_bd:subC Try.prog 3 p_bd=some (.loop (lb 3 p_bd)):=by kernel_rfl
theorem code_bd:subC Try.prog 3 (false :: p_bd)=some (lb 3 p_bd):=by kernel_rfl
theorem round_bd (K:Hg) (Z:Qg) (n:Nat) (ps:List Value) (g:Int) (r:Bool) (i:Int) (sb:Bool) (sn:ByteArray) (sd:ByteArray) (n2:Nat) (ts:List Value) (m2:Nat) (ps2:List Value) (mb:Bool) (mn:ByteArray) (md:ByteArray) (vb:Bool) (vn:ByteArray) (vd:ByteArray):letI q_15:=(ts.getD (i.toNat*(3:Nat)+(1:Nat)) undef);letI q_16:=(ts.getD (i.toNat*(3:Nat)+(2:Nat)) undef);letI q_9:=(ts.getD ((i - (1:Int)).toNat*(3:Nat)+(1:Nat)) undef);letI q_10:=(ts.getD ((i - (1:Int)).toNat*(3:Nat)+(2:Nat)) undef);letI q_2:=(Z.qv (asB (ts.getD (i.toNat*(3:Nat)+(0:Nat)) undef)) (asS q_15) (asS q_16) - Z.qv (asB (ts.getD ((i - (1:Int)).toNat*(3:Nat)+(0:Nat)) undef)) (asS q_9) (asS q_10));letI q_4:=(Z.qv (Z.qn q_2) (Z.qs q_2) (Z.qd q_2)*Z.qv (Z.qn (Z.fr g (1:Int))) (Z.qs (Z.fr g (1:Int))) (Z.qd (Z.fr g (1:Int))));letI q_21:=(Z.fr (1:Int) (1:Int));letI q_1:=(Z.qv (Z.qn q_4) (Z.qs q_4) (Z.qd q_4) - Z.qv (Z.qn q_21) (Z.qs q_21) (Z.qd q_21));letI q_11:=(ps.getD ((i - (1:Int)).toNat*(6:Nat)+(1:Nat)) undef);letI q_12:=(ps.getD ((i - (1:Int)).toNat*(6:Nat)+(2:Nat)) undef);letI q_13:=(ps.getD ((i - (1:Int)).toNat*(6:Nat)+(4:Nat)) undef);letI q_14:=(ps.getD ((i - (1:Int)).toNat*(6:Nat)+(5:Nat)) undef);letI q_17:=(ps.getD (i.toNat*(6:Nat)+(1:Nat)) undef);letI q_18:=(ps.getD (i.toNat*(6:Nat)+(2:Nat)) undef);letI q_19:=(ps.getD (i.toNat*(6:Nat)+(4:Nat)) undef);letI q_20:=(ps.getD (i.toNat*(6:Nat)+(5:Nat)) undef);letI q_3:=(K.ds (Z.qv (asB (ps.getD ((i - (1:Int)).toNat*(6:Nat)+(0:Nat)) undef)) (asS q_11) (asS q_12)) (Z.qv (asB (ps.getD ((i - (1:Int)).toNat*(6:Nat)+(3:Nat)) undef)) (asS q_13) (asS q_14)) (Z.qv (asB (ps.getD (i.toNat*(6:Nat)+(0:Nat)) undef)) (asS q_17) (asS q_18)) (Z.qv (asB (ps.getD (i.toNat*(6:Nat)+(3:Nat)) undef)) (asS q_19) (asS q_20)));letI q_5:=(Z.qv (Z.qn q_1) (Z.qs q_1) (Z.qd q_1)*Z.qv (Z.qn q_1) (Z.qs q_1) (Z.qd q_1));letI q_6:Option (Ex×List AV×Hp):=(bif inR IntKind.i64 (i+(1:Int)) then some (.normal,slots 153 [(0,(.lst false 41 n (vrow (6:Nat) ps))),(2,(.val (.int .i64 g))),(4,(.ptr 0 0)),(6,(.val (.bool r))),(7,(.ptr 1 0)),(9,(.ptr 2 0)),(10,(.ptr 3 0)),(12,(.val (.int .i64 (i+(1:Int)))))], [(.row (.cells [(.val (.bool sb)),(.val (.string sn)),(.val (.string sd))]) 24 .live),(.row (.cells [(.lst false 24 n2 (vrow (3:Nat) ts)),(.lst false 41 m2 (vrow (6:Nat) ps2))]) 30 .live),(.row (.cells [(.val (.bool mb)),(.val (.string mn)),(.val (.string md))]) 24 .live),(.row (.cells [(.val (.bool vb)),(.val (.string vn)),(.val (.string vd))]) 24 .live)]) else none);letI q_7:=(Z.qv (Z.qn q_3) (Z.qs q_3) (Z.qd q_3)*Z.qv (Z.qn (Z.fr (g*g) (1:Int))) (Z.qs (Z.fr (g*g) (1:Int))) (Z.qd (Z.fr (g*g) (1:Int))));letI q_8:=(Z.qv mb mn md*Z.qv (Z.qn q_5) (Z.qs q_5) (Z.qd q_5));
  (roundA Try.prog (EBd K Z) 3 [0,2,4,6,7,9,10,12] (lb 3 p_bd) (false :: p_bd) (sh_bd n ps g r i sb sn sd n2 ts m2 ps2 mb mn md vb vn vd) (hp_bd n ps g r i sb sn sd n2 ts m2 ps2 mb mn md vb vn vd)=(bif decide (i < (↑n:Int)) then (bif decide ((0:Int)≤i)&&decide (i < (↑n2:Int)) then (bif inR IntKind.i64 (i - (1:Int)) then (bif decide ((0:Int)≤i - (1:Int))&&decide (i - (1:Int) < (↑n2:Int)) then (bif isRat (ts.getD (i.toNat*(3:Nat)+(0:Nat)) undef) q_15 q_16&&isRat (ts.getD ((i - (1:Int)).toNat*(3:Nat)+(0:Nat)) undef) q_9 q_10&&(Z.ok (asS q_15) (asS q_16)&&Z.ok (asS q_9) (asS q_10)) then (bif inI g then (bif Z.ok (Z.qs q_2) (Z.qd q_2)&&Z.ok (Z.qs (Z.fr g (1:Int))) (Z.qd (Z.fr g (1:Int))) then (bif Z.ok (Z.qs q_4) (Z.qd q_4)&&Z.ok (Z.qs q_21) (Z.qd q_21) then (bif !strEq (Z.qd q_4) (ByteArray.mk #[]) then some (.ret,slots 153 [(0,(.lst false 41 n (vrow (6:Nat) ps))),(2,(.val (.int .i64 g))),(4,(.ptr 0 0)),(6,(.val (.bool false))),(7,(.ptr 1 0)),(9,(.ptr 2 0)),(10,(.ptr 3 0)),(12,(.val (.int .i64 i)))], [(.row (.cells [(.val (.bool sb)),(.val (.string sn)),(.val (.string sd))]) 24 .live),(.row (.cells [(.lst false 24 n2 (vrow (3:Nat) ts)),(.lst false 41 m2 (vrow (6:Nat) ps2))]) 30 .live),(.row (.cells [(.val (.bool mb)),(.val (.string mn)),(.val (.string md))]) 24 .live),(.row (.cells [(.val (.bool vb)),(.val (.string vn)),(.val (.string vd))]) 24 .live)]) else (bif Z.ok (Z.qs q_4) (Z.qd q_4) then (bif decide (Z.sq (Z.qv (Z.qn q_4) (Z.qs q_4) (Z.qd q_4))≤(0:Int)) then some (.ret,slots 153 [(0,(.lst false 41 n (vrow (6:Nat) ps))),(2,(.val (.int .i64 g))),(4,(.ptr 0 0)),(6,(.val (.bool false))),(7,(.ptr 1 0)),(9,(.ptr 2 0)),(10,(.ptr 3 0)),(12,(.val (.int .i64 i)))], [(.row (.cells [(.val (.bool sb)),(.val (.string sn)),(.val (.string sd))]) 24 .live),(.row (.cells [(.lst false 24 n2 (vrow (3:Nat) ts)),(.lst false 41 m2 (vrow (6:Nat) ps2))]) 30 .live),(.row (.cells [(.val (.bool mb)),(.val (.string mn)),(.val (.string md))]) 24 .live),(.row (.cells [(.val (.bool vb)),(.val (.string vn)),(.val (.string vd))]) 24 .live)]) else (bif inR IntKind.i64 (i - (1:Int)) then (bif decide ((0:Int)≤i - (1:Int))&&decide (i - (1:Int) < (↑n:Int)) then (bif decide ((0:Int)≤i)&&decide (i < (↑n:Int)) then (bif isRat (ps.getD ((i - (1:Int)).toNat*(6:Nat)+(0:Nat)) undef) q_11 q_12&&isRat (ps.getD ((i - (1:Int)).toNat*(6:Nat)+(3:Nat)) undef) q_13 q_14&&(isRat (ps.getD (i.toNat*(6:Nat)+(0:Nat)) undef) q_17 q_18&&isRat (ps.getD (i.toNat*(6:Nat)+(3:Nat)) undef) q_19 q_20)&&(K.ok (asS q_11) (asS q_12)&&K.ok (asS q_13) (asS q_14)&&K.ok (asS q_17) (asS q_18)&&K.ok (asS q_19) (asS q_20)) then (bif inR IntKind.i64 (g*g) then (bif inI (g*g) then (bif Z.ok (Z.qs q_3) (Z.qd q_3)&&Z.ok (Z.qs (Z.fr (g*g) (1:Int))) (Z.qd (Z.fr (g*g) (1:Int))) then (bif Z.ok (Z.qs q_1) (Z.qd q_1) then (bif decide ((0:Int) < Z.sq (Z.qv (Z.qn q_1) (Z.qs q_1) (Z.qd q_1))) then (bif Z.ok (Z.qs q_1) (Z.qd q_1)&&Z.ok (Z.qs q_1) (Z.qd q_1) then (bif Z.ok mn md&&Z.ok (Z.qs q_5) (Z.qd q_5) then (bif Z.ok (Z.qs q_7) (Z.qd q_7)&&Z.ok (Z.qs q_8) (Z.qd q_8) then (bif decide (Z.cq (Z.qv (Z.qn q_7) (Z.qs q_7) (Z.qd q_7)) (Z.qv (Z.qn q_8) (Z.qs q_8) (Z.qd q_8))≤(0:Int)) then some (.ret,slots 153 [(0,(.lst false 41 n (vrow (6:Nat) ps))),(2,(.val (.int .i64 g))),(4,(.ptr 0 0)),(6,(.val (.bool false))),(7,(.ptr 1 0)),(9,(.ptr 2 0)),(10,(.ptr 3 0)),(12,(.val (.int .i64 i)))], [(.row (.cells [(.val (.bool sb)),(.val (.string sn)),(.val (.string sd))]) 24 .live),(.row (.cells [(.lst false 24 n2 (vrow (3:Nat) ts)),(.lst false 41 m2 (vrow (6:Nat) ps2))]) 30 .live),(.row (.cells [(.val (.bool mb)),(.val (.string mn)),(.val (.string md))]) 24 .live),(.row (.cells [(.val (.bool vb)),(.val (.string vn)),(.val (.string vd))]) 24 .live)]) else q_6) else none) else none) else none) else q_6) else none) else none) else none) else none) else none) else none) else none) else none)) else none)) else none) else none) else none) else none) else none) else none) else none) else some ((.exit 0),slots 153 [(0,(.lst false 41 n (vrow (6:Nat) ps))),(2,(.val (.int .i64 g))),(4,(.ptr 0 0)),(6,(.val (.bool r))),(7,(.ptr 1 0)),(9,(.ptr 2 0)),(10,(.ptr 3 0)),(12,(.val (.int .i64 i)))], [(.row (.cells [(.val (.bool sb)),(.val (.string sn)),(.val (.string sd))]) 24 .live),(.row (.cells [(.lst false 24 n2 (vrow (3:Nat) ts)),(.lst false 41 m2 (vrow (6:Nat) ps2))]) 30 .live),(.row (.cells [(.val (.bool mb)),(.val (.string mn)),(.val (.string md))]) 24 .live),(.row (.cells [(.val (.bool vb)),(.val (.string vn)),(.val (.string vd))]) 24 .live)]))):=by kernel_rfl
theorem step_bd {n:Nat} {ps:List Value} {g:Int} {r:Bool} {i:Int} {sb:Bool} {sn:ByteArray} {sd:ByteArray} {n2:Nat} {ts:List Value} {m2:Nat} {ps2:List Value} {mb:Bool} {mn:ByteArray} {md:ByteArray} {vb:Bool} {vn:ByteArray} {vd:ByteArray} {e:Ex} {T:List AV} {H:Hp} (h:roundA Try.prog (EBd hg0 sq0) 3 [0,2,4,6,7,9,10,12] (lb 3 p_bd) (false :: p_bd) (sh_bd n ps g r i sb sn sd n2 ts m2 ps2 mb mn md vb vn vd) (hp_bd n ps g r i sb sn sd n2 ts m2 ps2 mb mn md vb vn vd)=some (e,T,H)):V.Ends Try.prog false 0 0 (lb 3 p_bd) (sh_bd n ps g r i sb sn sd n2 ts m2 ps2 mb mn md vb vn vd) (hp_bd n ps g r i sb sn sd n2 ts m2 ps2 mb mn md vb vn vd) e T H:=
 round_ends ((((((meets_none _).add eQCompare).add eQSign).add eQMul).add eQOf).add eQSub.gRR |>.add eVDist.gPP) loops_none mixed code_bd h
theorem rat_one:((1:Int):Rat)=1:=rfl
theorem qd_int (z:Int):sq0.qd (z:Rat)=ByteArray.mk #[]:=by
 have e:sq0.qd (z:Rat)=qdn (z:Rat):=rfl
 rw [e]
 unfold qdn
 rw [if_pos (Rat.den_intCast z)]
theorem strd (z:Int):strEq (sq0.qd (z:Rat)) (ByteArray.mk #[])=true:=by rw [qd_int,strEq_self]
theorem gg_in {g:Int} (h:1≤g∧g≤1000):1≤g*g∧g*g≤1000000:=by
 have h1:=Int.mul_le_mul h.1 h.1 (by omega) (by omega)
 have h2:=Int.mul_le_mul h.2 h.2 (by omega) (by omega)
 omega
section
variable {n : Nat} {ps : List Value} {sb : Bool} {sn sd : BA} {g : Int} {r vb : Bool} {vn vd : BA}
theorem bd_step (h:MkOk n ps sb sn sd g) (j:Nat) (hj:j+1 < n):V.Ends Try.prog false 0 0 (lb 3 p_bd) (sh_bd n ps g r ((j+1:Nat):Int) sb sn sd n (cells3 n (tmR ps (sq0.qv sb sn sd) g)) n ps (sq0.qn (sq0.qv sb sn sd*sq0.qv sb sn sd)) (sq0.qs (sq0.qv sb sn sd*sq0.qv sb sn sd)) (sq0.qd (sq0.qv sb sn sd*sq0.qv sb sn sd)) vb vn vd) (hp_bd n ps g r ((j+1:Nat):Int) sb sn sd n (cells3 n (tmR ps (sq0.qv sb sn sd) g)) n ps (sq0.qn (sq0.qv sb sn sd*sq0.qv sb sn sd)) (sq0.qs (sq0.qv sb sn sd*sq0.qv sb sn sd)) (sq0.qd (sq0.qv sb sn sd*sq0.qv sb sn sd)) vb vn vd) .normal (sh_bd n ps g r ((j+1+1:Nat):Int) sb sn sd n (cells3 n (tmR ps (sq0.qv sb sn sd) g)) n ps (sq0.qn (sq0.qv sb sn sd*sq0.qv sb sn sd)) (sq0.qs (sq0.qv sb sn sd*sq0.qv sb sn sd)) (sq0.qd (sq0.qv sb sn sd*sq0.qv sb sn sd)) vb vn vd) (hp_bd n ps g r ((j+1+1:Nat):Int) sb sn sd n (cells3 n (tmR ps (sq0.qv sb sn sd) g)) n ps (sq0.qn (sq0.qv sb sn sd*sq0.qv sb sn sd)) (sq0.qs (sq0.qv sb sn sd*sq0.qv sb sn sd)) (sq0.qd (sq0.qv sb sn sd*sq0.qv sb sn sd)) vb vn vd):=by
 have hr:=round_bd hg0 sq0 n ps g r ((j+1:Nat):Int) sb sn sd n (cells3 n (tmR ps (sq0.qv sb sn sd) g)) n ps (sq0.qn (sq0.qv sb sn sd*sq0.qv sb sn sd)) (sq0.qs (sq0.qv sb sn sd*sq0.qv sb sn sd)) (sq0.qd (sq0.qv sb sn sd*sq0.qv sb sn sd)) vb vn vd
 have e1:((j+1:Nat):Int) - 1=(j:Int):=by omega
 have hjn:j < n:=by omega
 have n10:=h.n10
 obtain ⟨⟨k1,k2⟩,k3,k4⟩:=okQ_out (h.pts j (by omega))
 obtain ⟨⟨l1,l2⟩,l3,l4⟩:=okQ_out (h.pts (j+1) hj)
 have t1:=tm_sz h hjn
 have t2:=tm_sz h hj
 have gg:=gg_in h.g
 have s1:=(h.dur hj).2.2.1
 have s2:=szq_int (stI ps (sq0.qv sb sn sd) g j)
 have s1:bs (stI ps (sq0.qv sb sn sd) g j).natAbs≤608:=s1
 have s3:=sz_g h.g
 have s4:=dsP_sz (h.pts j hjn) (h.pts (j+1) hj)
 have s5:=szq_sub (tmR ps (sq0.qv sb sn sd) g (j+1)) (tmR ps (sq0.qv sb sn sd) g j)
 have s6:szq (1:Rat)≤2:=sz_g (g:=1) (by decide)
 have s7:=szq_sub ((stI ps (sq0.qv sb sn sd) g j:Int):Rat) 1
 have s8:=szq_mul (((stI ps (sq0.qv sb sn sd) g j:Int):Rat) - 1) (((stI ps (sq0.qv sb sn sd) g j:Int):Rat) - 1)
 have s9:=szq_mul (g:Rat) (g:Rat)
 have s10:szq (sq0.qv sb sn sd)≤12:=ok12_sz h.ok
 have s11:=szq_mul (sq0.qv sb sn sd) (sq0.qv sb sn sd)
 have s12:=szq_mul (dsP ps j (j+1)) ((g:Rat)*(g:Rat))
 have s13:=szq_mul (sq0.qv sb sn sd*sq0.qv sb sn sd) ((((stI ps (sq0.qv sb sn sd) g j:Int):Rat) - 1)*(((stI ps (sq0.qv sb sn sd) g j:Int):Rat) - 1))
 have hst:1≤stI ps (sq0.qv sb sn sd) g j:=st_one
 have hst1:((1:Int):Rat)≤((stI ps (sq0.qv sb sn sd) g j:Int):Rat):=Rat.intCast_le_intCast.2 hst
 rw [rat_one] at hst1
 have hg2:1 < stI ps (sq0.qv sb sn sd) g j→sq0.qv sb sn sd*sq0.qv sb sn sd*((((stI ps (sq0.qv sb sn sd) g j:Int):Rat) - 1)*(((stI ps (sq0.qv sb sn sd) g j:Int):Rat) - 1)) < dsP ps j (j+1)*((g:Rat)*(g:Rat)):=st_gt (dsP_nn j) h.pos h.g.1
 simp only [e1,Int.toNat_natCast,dsP_eq,frg,Rat.intCast_mul,rat_one,qv_rat,cells3_b n _ hjn,cells3_n n _ hjn,cells3_d n _ hjn,cells3_b n _ hj,cells3_n n _ hj,cells3_d n _ hj,asB_bool,asS_str,isRat_mk,tm_dif h.g.1 j,strd] at hr
 rw [dT (show ((j+1:Nat):Int) < (n:Int) by omega),dT (show (0:Int)≤((j+1:Nat):Int) by omega),i64T (z:=(j:Int)) (by omega),dT (show (0:Int)≤(j:Int) by omega),dT (show (j:Int) < (n:Int) by omega),ok_rat (q:=tmR ps (sq0.qv sb sn sd) g (j+1)) (by omega),ok_rat (q:=tmR ps (sq0.qv sb sn sd) g j) (by omega),inI_in' h.g,
  ok_rat (q:=tmR ps (sq0.qv sb sn sd) g (j+1) - tmR ps (sq0.qv sb sn sd) g j) (by omega),ok_rat (q:=(g:Rat)) (by omega),ok_rat (q:=((stI ps (sq0.qv sb sn sd) g j:Int):Rat)) (by omega),ok_rat (q:=(1:Rat)) (by omega),
  dF (show ¬ sq0.sq ((stI ps (sq0.qv sb sn sd) g j:Int):Rat)≤0 from fun h=>sq_le.1 h (by grind)),k1,k2,k3,k4,l1,l2,l3,l4,i64T (z:=g*g) (by omega),show inI (g*g)=true from by unfold inI;rw [decide_eq_true (show -9223372036854775808≤g*g by omega),decide_eq_true (show g*g≤9223372036854775807 by omega)];rfl,
  ok_rat (q:=dsP ps j (j+1)) (by omega),ok_rat (q:=(g:Rat)*(g:Rat)) (by omega),ok_rat (q:=((stI ps (sq0.qv sb sn sd) g j:Int):Rat) - 1) (by omega),i64T (z:=((j+1:Nat):Int)+1) (by omega)] at hr
 by_cases hc:1 < stI ps (sq0.qv sb sn sd) g j
 ·have hcr:¬ sq0.cq (dsP ps j (j+1)*((g:Rat)*(g:Rat))) (sq0.qv sb sn sd*sq0.qv sb sn sd*((((stI ps (sq0.qv sb sn sd) g j:Int):Rat) - 1)*(((stI ps (sq0.qv sb sn sd) g j:Int):Rat) - 1)))≤0:=by
   have:=cq_gt'.2 (hg2 hc)
   omega
  rw [ok_rat (q:=sq0.qv sb sn sd*sq0.qv sb sn sd) (by omega),ok_rat (q:=(((stI ps (sq0.qv sb sn sd) g j:Int):Rat) - 1)*(((stI ps (sq0.qv sb sn sd) g j:Int):Rat) - 1)) (by omega),ok_rat (q:=dsP ps j (j+1)*((g:Rat)*(g:Rat))) (by omega),ok_rat (q:=sq0.qv sb sn sd*sq0.qv sb sn sd*((((stI ps (sq0.qv sb sn sd) g j:Int):Rat) - 1)*(((stI ps (sq0.qv sb sn sd) g j:Int):Rat) - 1))) (by omega),dF hcr] at hr
  refine step_bd (hr.trans ?_)
  cases decide (0 < sq0.sq (((stI ps (sq0.qv sb sn sd) g j:Int):Rat) - 1)) <;> rfl
 ·have hs1:stI ps (sq0.qv sb sn sd) g j=1:=by omega
  have hsq:¬ 0 < sq0.sq (((stI ps (sq0.qv sb sn sd) g j:Int):Rat) - 1):=by
   rw [hs1]
   show ¬ 0 < sq0.sq ((1:Rat) - 1)
   rw [show (1:Rat) - 1=0 from by grind]
   exact Int.lt_irrefl 0
  rw [dF hsq] at hr
  exact step_bd hr
theorem bd_go (h:MkOk n ps sb sn sd g) (k:Nat):∀ j,n=j+1+k→LoopTo Try.prog (lb 3 p_bd) (sh_bd n ps g r ((j+1:Nat):Int) sb sn sd n (cells3 n (tmR ps (sq0.qv sb sn sd) g)) n ps (sq0.qn (sq0.qv sb sn sd*sq0.qv sb sn sd)) (sq0.qs (sq0.qv sb sn sd*sq0.qv sb sn sd)) (sq0.qd (sq0.qv sb sn sd*sq0.qv sb sn sd)) vb vn vd) (hp_bd n ps g r ((j+1:Nat):Int) sb sn sd n (cells3 n (tmR ps (sq0.qv sb sn sd) g)) n ps (sq0.qn (sq0.qv sb sn sd*sq0.qv sb sn sd)) (sq0.qs (sq0.qv sb sn sd*sq0.qv sb sn sd)) (sq0.qd (sq0.qv sb sn sd*sq0.qv sb sn sd)) vb vn vd) (.exit 0) (sh_bd n ps g r (n:Int) sb sn sd n (cells3 n (tmR ps (sq0.qv sb sn sd) g)) n ps (sq0.qn (sq0.qv sb sn sd*sq0.qv sb sn sd)) (sq0.qs (sq0.qv sb sn sd*sq0.qv sb sn sd)) (sq0.qd (sq0.qv sb sn sd*sq0.qv sb sn sd)) vb vn vd) (hp_bd n ps g r (n:Int) sb sn sd n (cells3 n (tmR ps (sq0.qv sb sn sd) g)) n ps (sq0.qn (sq0.qv sb sn sd*sq0.qv sb sn sd)) (sq0.qs (sq0.qv sb sn sd*sq0.qv sb sn sd)) (sq0.qd (sq0.qv sb sn sd*sq0.qv sb sn sd)) vb vn vd):=by
 induction k with
 | zero=>
  intro j hj
  have:n=j+1:=by omega
  subst this
  refine .last (step_bd ?_) (by intro h;cases h)
  rw [round_bd,dF (show ¬ ((j+1:Nat):Int) < ((j+1:Nat):Int) by omega)]
  rfl
 | succ k ih=>
  intro j hj
  exact .more (bd_step h j (by omega)) (ih (j+1) (by omega))
end
def pre_bd (n:Nat) (ps:List Value) (g:Int) (r:Bool) (i:Int) (sb:Bool) (sn sd:BA) (n2:Nat) (ts:List Value) (m2:Nat) (ps2:List Value) (mb:Bool) (mn md:BA) (vb:Bool) (vn vd:BA):Prop:=i=1∧n2=n∧m2=n∧ps2=ps∧ts=cells3 n (tmR ps (sq0.qv sb sn sd) g)∧ps.length=n*6∧0 < n∧MkOk n ps sb sn sd g∧mb=sq0.qn (sq0.qv sb sn sd*sq0.qv sb sn sd)∧mn=sq0.qs (sq0.qv sb sn sd*sq0.qv sb sn sd)∧md=sq0.qd (sq0.qv sb sn sd*sq0.qv sb sn sd)
def post_bd (n:Nat) (ps:List Value) (g:Int) (r:Bool) (i:Int) (sb:Bool) (sn sd:BA) (n2:Nat) (ts:List Value) (m2:Nat) (ps2:List Value) (mb:Bool) (mn md:BA) (vb:Bool) (vn vd:BA) (ρ:Int):Prop:=True
theorem loop_bd (n:Nat) (ps:List Value) (g:Int) (r:Bool) (i:Int) (sb:Bool) (sn sd:BA) (n2:Nat) (ts:List Value) (m2:Nat) (ps2:List Value) (mb:Bool) (mn md:BA) (vb:Bool) (vn vd:BA) (h:pre_bd n ps g r i sb sn sd n2 ts m2 ps2 mb mn md vb vn vd):∃ ρ:Int,LoopTo Try.prog (lb 3 p_bd) (sh_bd n ps g r i sb sn sd n2 ts m2 ps2 mb mn md vb vn vd) (hp_bd n ps g r i sb sn sd n2 ts m2 ps2 mb mn md vb vn vd) (.exit 0) (sh_bd n ps g r ρ sb sn sd n2 ts m2 ps2 mb mn md vb vn vd) (hp_bd n ps g r ρ sb sn sd n2 ts m2 ps2 mb mn md vb vn vd)∧post_bd n ps g r i sb sn sd n2 ts m2 ps2 mb mn md vb vn vd ρ:=by
 obtain ⟨rfl,rfl,rfl,rfl,rfl,hl,hn,hM,rfl,rfl,rfl⟩:=h
 exact ⟨_,bd_go hM (m2 - 1) 0 (by omega),trivial⟩
def told_bd (κ:Nat→List Value→Int→Bool→Int→Bool→ByteArray→ByteArray→Nat→List Value→Nat→List Value→Bool→ByteArray→ByteArray→Bool→ByteArray→ByteArray→Bool) (φ:Nat→List Value→Int→Bool→Int→Bool→ByteArray→ByteArray→Nat→List Value→Nat→List Value→Bool→ByteArray→ByteArray→Bool→ByteArray→ByteArray→Int) (T:List AV) (H:Hp):Option (Bool×Ex×List AV×Hp):=
 match lget T 0,lget T 2,lget T 4,lget T 6,lget T 7,lget T 9,lget T 10,lget T 12,H with
 | .lst false 41 n f_ps, .val (.int .i64 g), .ptr 0 0, .val (.bool r), .ptr 1 0, .ptr 2 0, .ptr 3 0, .val (.int .i64 i), [.row (.cells [.val (.bool sb), .val (.string sn), .val (.string sd)]) 24 .live, .row (.cells [.lst false 24 n2 f_ts, .lst false 41 m2 f_ps2]) 30 .live, .row (.cells [.val (.bool mb), .val (.string mn), .val (.string md)]) 24 .live, .row (.cells [.val (.bool vb), .val (.string vn), .val (.string vd)]) 24 .live]=>bif T.length==153 then some (okV 6 n f_ps&&okV 3 n2 f_ts&&okV 6 m2 f_ps2&&κ n (rowV 6 n f_ps) g r i sb sn sd n2 (rowV 3 n2 f_ts) m2 (rowV 6 m2 f_ps2) mb mn md vb vn vd, .exit 0,sh_bd n (rowV 6 n f_ps) g r ((φ n (rowV 6 n f_ps) g r i sb sn sd n2 (rowV 3 n2 f_ts) m2 (rowV 6 m2 f_ps2) mb mn md vb vn vd)) sb sn sd n2 (rowV 3 n2 f_ts) m2 (rowV 6 m2 f_ps2) mb mn md vb vn vd,hp_bd n (rowV 6 n f_ps) g r ((φ n (rowV 6 n f_ps) g r i sb sn sd n2 (rowV 3 n2 f_ts) m2 (rowV 6 m2 f_ps2) mb mn md vb vn vd)) sb sn sd n2 (rowV 3 n2 f_ts) m2 (rowV 6 m2 f_ps2) mb mn md vb vn vd) else none
 | _,_,_,_,_,_,_,_,_=>none
abbrev KT_bd:Type:=Nat→List Value→Int→Bool→Int→Bool→ByteArray→ByteArray→Nat→List Value→Nat→List Value→Bool→ByteArray→ByteArray→Bool→ByteArray→ByteArray→Bool
abbrev FT_bd:Type:=Nat→List Value→Int→Bool→Int→Bool→ByteArray→ByteArray→Nat→List Value→Nat→List Value→Bool→ByteArray→ByteArray→Bool→ByteArray→ByteArray→Int
def LL_bd (κ:KT_bd) (φ:FT_bd) (L:LTab):LTab:=addLn 0 3 p_bd [0,2,4,6,7,9,10,12] (told_bd κ φ) L
def phi_bd (n:Nat) (ps:List Value) (g:Int) (r:Bool) (i:Int) (sb:Bool) (sn:ByteArray) (sd:ByteArray) (n2:Nat) (ts:List Value) (m2:Nat) (ps2:List Value) (mb:Bool) (mn:ByteArray) (md:ByteArray) (vb:Bool) (vn:ByteArray) (vd:ByteArray):Int:=Classical.epsilon fun ρ=>LoopTo Try.prog (lb 3 p_bd) (sh_bd n ps g r i sb sn sd n2 ts m2 ps2 mb mn md vb vn vd) (hp_bd n ps g r i sb sn sd n2 ts m2 ps2 mb mn md vb vn vd) (.exit 0) (sh_bd n ps g r (ρ) sb sn sd n2 ts m2 ps2 mb mn md vb vn vd) (hp_bd n ps g r (ρ) sb sn sd n2 ts m2 ps2 mb mn md vb vn vd)∧post_bd n ps g r i sb sn sd n2 ts m2 ps2 mb mn md vb vn vd ρ
theorem phi_bd_spec (n:Nat) (ps:List Value) (g:Int) (r:Bool) (i:Int) (sb:Bool) (sn:ByteArray) (sd:ByteArray) (n2:Nat) (ts:List Value) (m2:Nat) (ps2:List Value) (mb:Bool) (mn:ByteArray) (md:ByteArray) (vb:Bool) (vn:ByteArray) (vd:ByteArray) (h:pre_bd n ps g r i sb sn sd n2 ts m2 ps2 mb mn md vb vn vd):LoopTo Try.prog (lb 3 p_bd) (sh_bd n ps g r i sb sn sd n2 ts m2 ps2 mb mn md vb vn vd) (hp_bd n ps g r i sb sn sd n2 ts m2 ps2 mb mn md vb vn vd) (.exit 0) (sh_bd n ps g r ((phi_bd n ps g r i sb sn sd n2 ts m2 ps2 mb mn md vb vn vd)) sb sn sd n2 ts m2 ps2 mb mn md vb vn vd) (hp_bd n ps g r ((phi_bd n ps g r i sb sn sd n2 ts m2 ps2 mb mn md vb vn vd)) sb sn sd n2 ts m2 ps2 mb mn md vb vn vd)∧post_bd n ps g r i sb sn sd n2 ts m2 ps2 mb mn md vb vn vd (phi_bd n ps g r i sb sn sd n2 ts m2 ps2 mb mn md vb vn vd):=Classical.epsilon_spec (loop_bd n ps g r i sb sn sd n2 ts m2 ps2 mb mn md vb vn vd h)
def cond_bd (n:Nat) (ps:List Value) (g:Int) (r:Bool) (i:Int) (sb:Bool) (sn:ByteArray) (sd:ByteArray) (n2:Nat) (ts:List Value) (m2:Nat) (ps2:List Value) (mb:Bool) (mn:ByteArray) (md:ByteArray) (vb:Bool) (vn:ByteArray) (vd:ByteArray):Bool:= @decide (pre_bd n ps g r i sb sn sd n2 ts m2 ps2 mb mn md vb vn vd) (Classical.propDecidable _)
theorem cond_bd_eq (n:Nat) (ps:List Value) (g:Int) (r:Bool) (i:Int) (sb:Bool) (sn:ByteArray) (sd:ByteArray) (n2:Nat) (ts:List Value) (m2:Nat) (ps2:List Value) (mb:Bool) (mn:ByteArray) (md:ByteArray) (vb:Bool) (vn:ByteArray) (vd:ByteArray) (h:pre_bd n ps g r i sb sn sd n2 ts m2 ps2 mb mn md vb vn vd):cond_bd n ps g r i sb sn sd n2 ts m2 ps2 mb mn md vb vn vd=true:= @decide_eq_true _ (Classical.propDecidable _) h
theorem told_bd_ok (T:List AV) (H:Hp) (e:Ex) (T1:List AV) (H1:Hp) (h:told_bd cond_bd phi_bd T H=some (true,e,T1,H1)):V.Ends Try.prog false 0 0 (.loop (lb 3 p_bd)) T H e T1 H1:=by
 unfold told_bd at h
 split at h
 ·rename_i n f_ps g r i sb sn sd n2 f_ts m2 f_ps2 mb mn md vb vn vd h0 h2 h4 h6 h7 h9 h10 h12
  rw [Bool.cond_eq_ite] at h
  split at h
  ·rename_i hlen
   rw [beq_iff_eq] at hlen
   simp only [Option.some.injEq,Prod.mk.injEq,Bool.and_eq_true,decide_eq_true_eq] at h
   obtain ⟨⟨⟨⟨k1,k2⟩,k3⟩,k4⟩,rfl,rfl,rfl⟩:=h
   have kc:= @of_decide_eq_true _ (Classical.propDecidable _) k4
   refine Ends.pre (Ends.preH (phi_bd_spec n (rowV 6 n f_ps) g r i sb sn sd n2 (rowV 3 n2 f_ts) m2 (rowV 6 m2 f_ps2) mb mn md vb vn vd kc).1.ends (sameH.cons (sameB.refl _) (sameH.cons ⟨⟨rfl,fun _ _ _ _ _ hh=>rel_trj (by kernel_rfl) (by kernel_rfl) k2 k3 hh⟩,rfl,rfl⟩ (sameH.cons (sameB.refl _) (sameH.cons (sameB.refl _) sameH.nil))))) (fun α B w D ys hr=>slots_rel hlen (fun p hp y hy=> ?_) hr)
   simp only [List.mem_cons,List.not_mem_nil,or_false] at hp
   rcases hp with rfl | rfl | rfl | rfl | rfl | rfl | rfl | rfl
   ·rw [h0] at hy;exact row_normV (by kernel_rfl) k1 hy
   ·rw [h2] at hy;exact hy
   ·rw [h4] at hy;exact hy
   ·rw [h6] at hy;exact hy
   ·rw [h7] at hy;exact hy
   ·rw [h9] at hy;exact hy
   ·rw [h10] at hy;exact hy
   ·rw [h12] at hy;exact hy
  ·cases h
 ·cases h
theorem LL_bd_ok {L:LTab} (h:LOk Try.prog L):LOk Try.prog (LL_bd cond_bd phi_bd L):=h.add2n body_bd told_bd_ok
end
end Go.Proofs.Ytdnmkehncpfnnaa.L
namespace Go.Proofs.Ytdnmkehncpfnnaa.L
open Go Go.V Go.RowKit Go.Proofs.Ytdnmkehncpfnnaa.Sp
open Go.Proofs (Try.prog)
noncomputable section
def CBg (T:Tg) (K:Hg) (C:FuncId→TF):FuncId→TF:=addC 4 (tGP T) (addC 5 (tGreat K) (addC 6 tAwS C))
def CBo (T:Tg) (K:Hg) (W:Wg) (Z:Qg) (C:Cg) (P:Pg) (M:Ep):FuncId→TF:=CBg T K (addC 7 (tMkO W Z) (addC 8 (tQMul Z) (addC 9 (tSpeed C P Z) (addC 10 (tChk C) (addC 11 (tQCompare Z) (addC 12 (tEqP M) (addC 13 (gR (tQSign Z)) noC)))))))
theorem CBo_ok:Meets Try.prog (CBo tg0 hg0 wg0 sq0 cg0 pg0 ep0):=((((((((((meets_none _).add eQSign.gR).add eEqP).add eQCompare).add eChk).add eSpeed).add eQMul).add eMakes.1).add eAwakeS).add eGreat).add eGP
theorem bnd_o (T:Tg) (K:Hg) (W:Wg) (Z:Qg) (C:Cg) (P:Pg) (M:Ep) (κ:KT_bd) (φ:FT_bd) (n:Nat) (ps:List Value) (sb:Bool) (sn sd:BA) (g:Int):letI q_1:=(rowV (6:Nat) n (vrow (6:Nat) ps));letI q_3:=(W.tm n q_1 (Z.qv sb sn sd) g);letI q_6:=(rowV (3:Nat) n (vrow (3:Nat) q_3));letI q_4:=(rowV (6:Nat) n (vrow (6:Nat) q_1));letI q_2:=(P.sv n q_6 n q_4);letI q_5:=(Z.qv sb sn sd*Z.qv sb sn sd);
  (callA Try.prog ⟨CBo T K W Z C P M,Kall,LL_bd κ φ noL⟩ 10 10 3 [.lst false 41 n (vrow 6 ps),w3 sb sn sd, .val (.int .i64 g)]=(bif okV (6:Nat) n (vrow (6:Nat) ps)&&T.okp n q_1 then (bif T.gp n q_1 then some (.val (.bool true)) else (bif K.gr sn sd then some (.val (.bool true)) else (bif okV (6:Nat) n (vrow (6:Nat) ps)&&(W.mo n q_1 sn sd&&decide (W.me n q_1 sb sn sd g=(0:Int))) then (bif Z.ok sn sd&&Z.ok sn sd then (bif okV (3:Nat) n (vrow (3:Nat) q_3)&&okV (6:Nat) n (vrow (6:Nat) q_1)&&C.ko n q_6 n q_4 then (bif !decide (P.se n q_6 n q_4=(0:Int)) then some (.val (.bool false)) else (bif okV (3:Nat) n (vrow (3:Nat) q_3)&&okV (6:Nat) n (vrow (6:Nat) q_1)&&C.ko n q_6 n q_4 then (bif !decide (C.ck n q_6 n q_4=(0:Int)) then some (.val (.bool false)) else (bif !decide ((↑n:Int)=(↑n:Int)) then some (.val (.bool false)) else (bif decide ((↑n:Int)=(0:Int)) then some (.val (.bool false)) else (bif Z.ok (Z.qs q_2) (Z.qd q_2)&&Z.ok (Z.qs q_5) (Z.qd q_5) then (bif decide ((0:Int) < Z.cq (Z.qv (Z.qn q_2) (Z.qs q_2) (Z.qd q_2)) (Z.qv (Z.qn q_5) (Z.qs q_5) (Z.qd q_5))) then some (.val (.bool false)) else (bif okV (6:Nat) n (vrow (6:Nat) q_1)&&(okV (6:Nat) n (vrow (6:Nat) ps)&&M.ep n q_4 n q_1) then (bif decide ((0:Int) < (↑n:Int)) then (bif isRat (q_3.getD (0:Nat) undef) (q_3.getD (1:Nat) undef) (q_3.getD (2:Nat) undef)&&Z.ok (asS (q_3.getD (1:Nat) undef)) (asS (q_3.getD (2:Nat) undef)) then (bif !decide (Z.sq (Z.qv (asB (q_3.getD (0:Nat) undef)) (asS (q_3.getD (1:Nat) undef)) (asS (q_3.getD (2:Nat) undef)))=(0:Int)) then some (.val (.bool false)) else (bif okV (6:Nat) n (vrow (6:Nat) ps)&&okV (3:Nat) n (vrow (3:Nat) q_3)&&okV (6:Nat) n (vrow (6:Nat) q_1)&&κ n q_1 g false (1:Int) sb sn sd n q_6 n q_4 (Z.qn q_5) (Z.qs q_5) (Z.qd q_5) (Z.qn q_2) (Z.qs q_2) (Z.qd q_2) then some (.val (.bool true)) else none)) else none) else none) else none)) else none)))) else none)) else none) else none) else none))) else none)):=by kernel_rfl
end
end Go.Proofs.Ytdnmkehncpfnnaa.L
namespace Go.Proofs.Ytdnmkehncpfnnaa.L
open Go Go.V Go.RowKit Go.Proofs.Ytdnmkehncpfnnaa.Sp
open Go.Proofs (Try.prog)
noncomputable section
def tNox:TF:=fun _=>some (false, .any)
theorem eNox {g:FuncId} :Entry Try.prog g tNox:=fun args r h=>by cases h
def CBf (T:Tg) (K:Hg) (W:Wg):FuncId→TF:=addC 4 (tGP T) (addC 5 (tGreat K) (addC 6 tAwS (addC 7 (tMkE W) (addC 8 tNox noC))))
theorem CBf_ok:Meets Try.prog (CBf tg0 hg0 wg0):=(((((meets_none _).add eNox).add eMakes.2).add eAwakeS).add eGreat).add eGP
theorem bnd_e (T:Tg) (K:Hg) (W:Wg) (n:Nat) (ps:List Value) (sb:Bool) (sn sd:BA) (g:Int):callA Try.prog ⟨CBf T K W,Kall,noL⟩ 10 10 3 [.lst false 41 n (vrow 6 ps),w3 sb sn sd, .val (.int .i64 g)]=
  (bif okV (6:Nat) n (vrow (6:Nat) ps)&&T.okp n (rowV (6:Nat) n (vrow (6:Nat) ps)) then (bif T.gp n (rowV (6:Nat) n (vrow (6:Nat) ps)) then some (.val (.bool true)) else (bif K.gr sn sd then some (.val (.bool true)) else (bif okV (6:Nat) n (vrow (6:Nat) ps)&&(W.mo n (rowV (6:Nat) n (vrow (6:Nat) ps)) sn sd&& !decide (W.me n (rowV (6:Nat) n (vrow (6:Nat) ps)) sb sn sd g=(0:Int))) then (bif !decide (W.me n (rowV (6:Nat) n (vrow (6:Nat) ps)) sb sn sd g=(0:Int)) then some (.val (.bool true)) else none) else none))) else none):=by kernel_rfl
theorem gpb_out {n:Nat} {ps:List Value} (ho:okpN n ps=true) (h:¬ gpN n ps=true):okqN n ps=true∧(n≤10∨1000 < n)∧n≤1005:=by
 obtain ⟨h1,h2⟩:=okpN_out (show tg0.okp n ps=true from ho)
 unfold gpN at h
 rw [Bool.not_eq_true,Bool.or_eq_false_iff,Bool.or_eq_false_iff,Bool.and_eq_false_iff,decide_eq_false_iff_not,decide_eq_false_iff_not,decide_eq_false_iff_not] at h
 obtain ⟨h3,h4,h5⟩:=h
 refine ⟨?_,by omega,by omega⟩
 unfold okqN
 rw [Bool.and_eq_true,decide_eq_true_eq,List.all_eq_true]
 refine ⟨h1,fun j hj=> ?_⟩
 rw [List.mem_range] at hj
 have h6:=none_lt (Bool.eq_false_iff.1 h3) hj
 unfold grP at h6
 rw [Bool.or_eq_false_iff] at h6
 unfold okQ
 rw [h2 j hj,gr12 h6.1,gr12 h6.2];rfl
theorem meN_zero {n:Nat} {ps:List Value} {sb:Bool} {sn sd:BA} {g:Int} (h:meN n ps sb sn sd g=0):¬ n=0∧¬ 1000 < n∧¬ badN n ps=true∧0 < sq0.qv sb sn sd∧1≤g∧g≤1000:=by
 unfold meN at h
 split at h
 ·cases h
 rename_i h1
 split at h
 ·cases h
 rename_i h2
 split at h
 ·cases h
 rename_i h3
 split at h
 ·cases h
 rename_i h4
 refine ⟨h1,h2,fun h=>h3 (.inl h),Classical.not_not.1 fun h=>h4 (.inl (sq_le.2 h)), ?_, ?_⟩
 ·exact Int.not_lt.1 fun h=>h4 (.inr (.inl h))
 ·exact Int.not_lt.1 fun h=>h4 (.inr (.inr h))
theorem spd0 {n:Nat} {ts ps:List Value} (hc:ckN n ts n ps=0):pg0.se n ts n ps=0∧pg0.sv n ts n ps=mxN ts ps (n - 1):= ⟨if_pos hc,if_pos hc⟩
theorem bounded_true (n:Nat) (ps:List Value) (sb:Bool) (sn sd:BA) (g:Int) (hl:ps.length=n*6) (ho:okpN n ps=true):∃ (E:Env),Meets Try.prog E.C∧LoopsOk Try.prog E∧callA Try.prog E 10 10 3 [.lst false 41 n (vrow 6 ps),w3 sb sn sd, .val (.int .i64 g)]=some (.val (.bool true)):=by
 have ho1:tg0.okp n ps=true:=ho
 by_cases hgp:gpN n ps=true
 ·refine ⟨⟨CBf tg0 hg0 wg0,Kall,noL⟩,CBf_ok,loops_none, ?_⟩
  rw [bnd_e,rowV_vrow hl,okV_vrow,ho1,show tg0.gp n ps=true from hgp];rfl
 have hgp1:tg0.gp n ps=false:=Bool.eq_false_iff.2 hgp
 by_cases hgr:hg0.gr sn sd=true
 ·refine ⟨⟨CBf tg0 hg0 wg0,Kall,noL⟩,CBf_ok,loops_none, ?_⟩
  rw [bnd_e,rowV_vrow hl,okV_vrow,ho1,hgp1,hgr];rfl
 have hgr1:hg0.gr sn sd=false:=Bool.eq_false_iff.2 hgr
 obtain ⟨q1,q2,q3⟩:=gpb_out ho hgp
 have hmo:wg0.mo n ps sn sd=true:=by
  show moN n ps sn sd=true
  unfold moN
  rw [q1,gr12 hgr1,Bool.true_and,Bool.true_and,Bool.or_eq_true,decide_eq_true_eq,decide_eq_true_eq]
  exact q2
 by_cases he:wg0.me n ps sb sn sd g=0
 ·refine ⟨⟨CBo tg0 hg0 wg0 sq0 cg0 pg0 ep0,Kall,LL_bd cond_bd phi_bd noL⟩,CBo_ok,(LL_bd_ok LOk.none).ok, ?_⟩
  obtain ⟨m1,m2,m3,m4,m5,m6⟩:=meN_zero he
  have hM:MkOk n ps sb sn sd g:=meN_good q1 (gr12 hgr1) m1 (by omega) m4 ⟨m5,m6⟩
  obtain ⟨c1,c2⟩:=made_ok hM (by omega) m3
  have hpl:=plOk_of c1 c2
  have p1:=spd0 c2
  have s1:szq (sq0.qv sb sn sd)≤12:=ok12_sz hM.ok
  have s2:=szq_mul (sq0.qv sb sn sd) (sq0.qv sb sn sd)
  have s3:=mx_sz hpl (n - 1) (by omega)
  have hts:(cells3 n (tmR ps (sq0.qv sb sn sd) g)).length=n*3:=cells3_len _ _
  have b1:(cells3 n (tmR ps (sq0.qv sb sn sd) g)).getD 0 undef= .bool (sq0.qn 0):=cells3_b n (tmR ps (sq0.qv sb sn sd) g) (j:=0) (by omega)
  have b2:(cells3 n (tmR ps (sq0.qv sb sn sd) g)).getD 1 undef= .string (sq0.qs 0):=cells3_n n (tmR ps (sq0.qv sb sn sd) g) (j:=0) (by omega)
  have b3:(cells3 n (tmR ps (sq0.qv sb sn sd) g)).getD 2 undef= .string (sq0.qd 0):=cells3_d n (tmR ps (sq0.qv sb sn sd) g) (j:=0) (by omega)
  have hsp:¬ 0 < sq0.cq (mxN (cells3 n (tmR ps (sq0.qv sb sn sd) g)) ps (n - 1)) (sq0.qv sb sn sd*sq0.qv sb sn sd):=fun h=>speed_le m4 m5 (n - 1) (by omega) (cq_gt'.1 h)
  have hq:pre_bd n ps g false 1 sb sn sd n (cells3 n (tmR ps (sq0.qv sb sn sd) g)) n ps (sq0.qn (sq0.qv sb sn sd*sq0.qv sb sn sd)) (sq0.qs (sq0.qv sb sn sd*sq0.qv sb sn sd)) (sq0.qd (sq0.qv sb sn sd*sq0.qv sb sn sd)) (sq0.qn (mxN (cells3 n (tmR ps (sq0.qv sb sn sd) g)) ps (n - 1))) (sq0.qs (mxN (cells3 n (tmR ps (sq0.qv sb sn sd) g)) ps (n - 1))) (sq0.qd (mxN (cells3 n (tmR ps (sq0.qv sb sn sd) g)) ps (n - 1))):= ⟨rfl,rfl,rfl,rfl,rfl,hl,by omega,hM,rfl,rfl,rfl⟩
  have e1:wg0.tm n ps (sq0.qv sb sn sd) g=cells3 n (tmR ps (sq0.qv sb sn sd) g):=rfl
  have ok1:=ok12_q hM.ok
  have hz:sq0.sq (0:Rat)=0:=rfl
  have oz:=ok_rat (q:=(0:Rat)) (by have:=szq_zero;omega)
  rw [bnd_o]
  simp only [decide_true,rowV_vrow hl,e1,rowV_vrow hts,okV_vrow,ho1,hgp1,hgr1,hmo,dT he,ok1,show cg0.ko n (cells3 n (tmR ps (sq0.qv sb sn sd) g)) n ps=true from c1,p1.2,qv_rat,b1,b2,b3,asB_bool,asS_str,isRat_mk,oz,hz,show ep0.ep n ps n ps=true from epN_in ho,ok_rat (q:=sq0.qv sb sn sd*sq0.qv sb sn sd) (by omega),ok_rat (q:=mxN (cells3 n (tmR ps (sq0.qv sb sn sd) g)) ps (n - 1)) (by omega)]
  rw [dT p1.1,dT (show cg0.ck n (cells3 n (tmR ps (sq0.qv sb sn sd) g)) n ps=0 from c2),dF (show ¬ (n:Int)=0 by omega),dF hsp,dT (show (0:Int) < (n:Int) by omega),cond_bd_eq _ _ _ _ _ _ _ _ _ _ _ _ _ _ _ _ _ _ hq]
  rfl
 ·refine ⟨⟨CBf tg0 hg0 wg0,Kall,noL⟩,CBf_ok,loops_none, ?_⟩
  rw [bnd_e,rowV_vrow hl,okV_vrow,ho1,hgp1,hgr1,hmo,dF he];rfl
theorem bounded_walk (n:Nat) (ps:List Value) (hl:ps.length=n*6) (ho:okpN n ps=true) (sb:Bool) (sn sd:BA) (g:Int) {q:Prop} (hq:q) (W:World) (v:Value) (hv:(AV.lst false 41 n (vrow 6 ps)).Rel Try.prog NoA (fun _=>False) W NoD v):Calls Try.prog 3 #[v, .agg #[.bool sb, .string sn, .string sd], .int .i64 g] W fun e w'=>e= .returned (.bool true)∧Below W.heap.size W w':=by
 obtain ⟨E,h1,h2,h3⟩:=bounded_true n ps sb sn sd g hl ho
 exact law_walk h1 h2 (by kernel_rfl) h3 W ⟨_,_,rfl,hv,_,_,rfl,arg_rat _ _ sb sn sd,_,_,rfl,rfl,rfl⟩
end
end Go.Proofs.Ytdnmkehncpfnnaa.L
