import Derived.Test.YtdnmkehncpfnnaaGreatZHZ
import Derived.Deep.Slices
import Derived.Carry
import Derived.ChangeOld
import Derived.Lib.SmallJoins
set_option linter.unusedVariables false
set_option linter.unusedSimpArgs false
namespace Go.Proofs.YtdnmkehncpfnnaaGreat.L
open Go Go.V Go.RowKit Go.Proofs.YtdnmkehncpfnnaaGreat.Sp
open Go.Proofs (Tryz.prog)
noncomputable section
def CAt (G:Cg) (V:Vg) (Z:Qg):FuncId→TF:=addC 28 (tChk G) (addC 42 (tQCheck Z) (addC 54 (tPlace V Z) noC))
theorem at_call (G:Cg) (V:Vg) (Z:Qg) (n:Nat) (ts:List Value) (m:Nat) (ps:List Value) (xb:Bool) (xn xd:BA):letI q_1:=(rowV (3:Nat) n (vrow (3:Nat) ts));letI q_2:=(rowV (6:Nat) m (vrow (6:Nat) ps));
  (callA Tryz.prog ⟨CAt G V Z,Kall,noL⟩ 10 10 16 [aTrj n ts m ps,w3 xb xn xd]=(bif okV (3:Nat) n (vrow (3:Nat) ts)&&okV (6:Nat) m (vrow (6:Nat) ps)&&G.ko n q_1 m q_2 then (bif !decide (G.ck n q_1 m q_2=(0:Int)) then some (.tup [(.agg [(.val (.bool false)),(.val (.string (ByteArray.mk #[]))),(.val (.string (ByteArray.mk #[]))),(.val (.bool false)),(.val (.string (ByteArray.mk #[]))),(.val (.string (ByteArray.mk #[])))]),(.val (.int .i64 1))]) else (bif Z.ok xn xd then (bif !decide (Z.ck xb xn xd=(0:Int)) then some (.tup [(.agg [(.val (.bool false)),(.val (.string (ByteArray.mk #[]))),(.val (.string (ByteArray.mk #[]))),(.val (.bool false)),(.val (.string (ByteArray.mk #[]))),(.val (.string (ByteArray.mk #[])))]),(.val (.int .i64 1))]) else (bif okV (3:Nat) n (vrow (3:Nat) ts)&&okV (6:Nat) m (vrow (6:Nat) ps)&&V.pk n q_1 m q_2 xn xd then some (.tup [(.agg [(.val (.bool (Z.qn (V.plx n q_1 q_2 (Z.qv xb xn xd))))),(.val (.string (Z.qs (V.plx n q_1 q_2 (Z.qv xb xn xd))))),(.val (.string (Z.qd (V.plx n q_1 q_2 (Z.qv xb xn xd))))),(.val (.bool (Z.qn (V.ply n q_1 q_2 (Z.qv xb xn xd))))),(.val (.string (Z.qs (V.ply n q_1 q_2 (Z.qv xb xn xd))))),(.val (.string (Z.qd (V.ply n q_1 q_2 (Z.qv xb xn xd)))))]),(.val (.int .i64 0))]) else none)) else none)) else none)):=by kernel_rfl
structure Ag where
 ak:Nat→List Value→Nat→List Value→BA→BA→Bool
 ae:Nat→List Value→Nat→List Value→Bool→BA→BA→Int
 ax:Nat→List Value→Nat→List Value→Bool→BA→BA→Rat
 ay:Nat→List Value→Nat→List Value→Bool→BA→BA→Rat
def atE (n:Nat) (ts:List Value) (m:Nat) (ps:List Value) (xb:Bool) (xn xd:BA):Int:=if ckN n ts m ps=0∧sq0.ck xb xn xd=0 then 0 else 1
def ag0:Ag where
 ak n ts m ps xn xd:=koN n ts m ps&&okm xn xd
 ae:=atE
 ax n ts m ps xb xn xd:=if atE n ts m ps xb xn xd=0 then pl1 n ts (px ps) (sq0.qv xb xn xd) else 0
 ay n ts m ps xb xn xd:=if atE n ts m ps xb xn xd=0 then pl1 n ts (py ps) (sq0.qv xb xn xd) else 0
def tAt (A:Ag) (Z:Qg):TF:=fun args=>match args with
 | [.agg [.lst _ 24 n f, .lst _ 38 m g], .agg [.val (.bool xb), .val (.string xn), .val (.string xd)]]=>some (okV 3 n f&&okV 6 m g&&A.ak n (rowV 3 n f) m (rowV 6 m g) xn xd, .tup [Z.pair (A.ax n (rowV 3 n f) m (rowV 6 m g) xb xn xd) (A.ay n (rowV 3 n f) m (rowV 6 m g) xb xn xd), .val (.int .i64 (A.ae n (rowV 3 n f) m (rowV 6 m g) xb xn xd))])
 | _=>none
theorem ckN_ok {n:Nat} {ts:List Value} {m:Nat} {ps:List Value} (h:ckN n ts m ps=0):n=m∧0 < n∧n≤1000∧∀ j,j < n→ckE ts ps j=0:=by
 unfold ckN at h
 split at h
 ·cases h
 ·rename_i h1
  split at h
  ·cases h
  ·split at h
   ·cases h
   ·exact ⟨Classical.not_not.1 h1,by omega,by omega,ckL_ok h⟩
theorem plOk_of {n:Nat} {ts:List Value} {m:Nat} {ps:List Value} (ho:koN n ts m ps=true) (h:ckN n ts m ps=0):PlOk n ts m ps:=by
 obtain ⟨rfl,h1,h2,h3⟩:=ckN_ok h
 obtain ⟨hx,hp⟩:=koN_out ho
 refine ⟨rfl,h1, ⟨h2,hx,fun j hj=> ?_⟩,hp,fun j hj=>(ckE_go (h3 j hj)).2.1⟩
 have:=(ckE_go (h3 (j+1) hj)).2.2 (by omega)
 rw [cq_ge,Nat.add_sub_cancel] at this
 exact Classical.not_not.1 this
theorem CAt_ok:Meets Tryz.prog (CAt cg0 vg0 sq0):=(((meets_none _).add ePlace).add eQCheck).add eChk
theorem pair_zero:sq0.pair 0 0= .agg [.val (.bool false), .val (.string (ByteArray.mk #[])), .val (.string (ByteArray.mk #[])), .val (.bool false), .val (.string (ByteArray.mk #[])), .val (.string (ByteArray.mk #[]))]:=by
 unfold Qg.pair
 rw [qn_zero,qs_zero,qd_zero]
theorem at_val (n:Nat) (ts:List Value) (m:Nat) (ps:List Value) (xb:Bool) (xn xd:BA) (l1:ts.length=n*3) (l2:ps.length=m*6) (hk:ag0.ak n ts m ps xn xd=true):
  callA Tryz.prog ⟨CAt cg0 vg0 sq0,Kall,noL⟩ 10 10 16 [aTrj n ts m ps,w3 xb xn xd]=some (.tup [sq0.pair (ag0.ax n ts m ps xb xn xd) (ag0.ay n ts m ps xb xn xd), .val (.int .i64 (ag0.ae n ts m ps xb xn xd))]):=by
 have hk:(koN n ts m ps&&okm xn xd)=true:=hk
 rw [Bool.and_eq_true] at hk
 obtain ⟨k1,k2⟩:=hk
 rw [at_call,rowV_vrow l1,rowV_vrow l2,okV_vrow,okV_vrow,show cg0.ko n ts m ps=true from k1,okm_q k2]
 by_cases h:atE n ts m ps xb xn xd=0
 ·have hax:ag0.ax n ts m ps xb xn xd=pl1 n ts (px ps) (sq0.qv xb xn xd):=if_pos h
  have hay:ag0.ay n ts m ps xb xn xd=pl1 n ts (py ps) (sq0.qv xb xn xd):=if_pos h
  have hae:ag0.ae n ts m ps xb xn xd=0:=h
  rw [hax,hay,hae]
  unfold atE at h
  split at h
  ·rename_i hc
   have hpk:vg0.pk n ts m ps xn xd=true:=by
    show pkN n ts m ps xn xd=true
    unfold pkN
    rw [@decide_eq_true _ (Classical.propDecidable _) (plOk_of k1 hc.1),k2];rfl
   rw [dT (show cg0.ck n ts m ps=0 from hc.1),dT hc.2,hpk];rfl
  ·cases h
 ·have hax:ag0.ax n ts m ps xb xn xd=0:=if_neg h
  have hay:ag0.ay n ts m ps xb xn xd=0:=if_neg h
  have hae:ag0.ae n ts m ps xb xn xd=1:=by
   show atE n ts m ps xb xn xd=1
   unfold atE at h ⊢
   split <;> rename_i hc
   ·rw [if_pos hc] at h;exact absurd rfl h
   ·rfl
  rw [hax,hay,hae,pair_zero]
  by_cases h1:ckN n ts m ps=0
  ·by_cases h2:sq0.ck xb xn xd=0
   ·exact absurd (by unfold atE;rw [if_pos ⟨h1,h2⟩]) h
   ·rw [dT (show cg0.ck n ts m ps=0 from h1),dF h2];rfl
  ·rw [dF (show ¬ cg0.ck n ts m ps=0 from h1)];rfl
theorem eAt:Entry Tryz.prog 16 (tAt ag0 sq0):=by
 refine entry_at (by kernel_rfl) (fun args r h=> ?_)
 unfold tAt at h
 split at h
 ·rename_i fl n f fl2 m g xb xn xd
  simp only [Option.some.injEq,Prod.mk.injEq,Bool.and_eq_true] at h
  obtain ⟨⟨⟨h1,h2⟩,h3⟩,rfl⟩:=h
  exact ⟨⟨CAt cg0 vg0 sq0,Kall,noL⟩,10,10,_,_,CAt_ok,loops_none,at_val n _ m _ xb xn xd (rowV_len 3 n f) (rowV_len 6 m g) h3,ImpL.cons (imp_trj h1 h2) (ImpL.refl _),Imp.refl _⟩
 ·cases h
end
end Go.Proofs.YtdnmkehncpfnnaaGreat.L
namespace Go.Proofs.YtdnmkehncpfnnaaGreat.L
open Go Go.V Go.RowKit Go.Proofs.YtdnmkehncpfnnaaGreat.Sp
open Go.Proofs (Tryz.prog)
noncomputable section
def grT (ts:List Value) (j:Nat):Bool:=hg0.gr (asS (ts.getD (j*3+1) undef)) (asS (ts.getD (j*3+2) undef))
abbrev p_gt:List Bool:= [false,true,false,true]
def sh_gt (r:Bool) (i:Int) (n:Nat) (ts:List Value) (m:Nat) (ps:List Value):List AV:=slots 38 [(1, .ptr 0 0),(2, .val (.bool r)),(3, .val (.int .i64 i))]
def hp_gt (r:Bool) (i:Int) (n:Nat) (ts:List Value) (m:Nat) (ps:List Value):Hp:= [.row (.cells [.lst false 24 n (vrow 3 ts), .lst false 38 m (vrow 6 ps)]) 30 .live]
theorem body_gt:subC Tryz.prog 29 p_gt=some (.loop (lb 29 p_gt)):=by kernel_rfl
theorem code_gt:subC Tryz.prog 29 (false :: p_gt)=some (lb 29 p_gt):=by kernel_rfl
theorem round_gt (K:Hg) (r:Bool) (i:Int) (n:Nat) (ts:List Value) (m:Nat) (ps:List Value):roundA Tryz.prog (EGp K) 29 [1,2,3] (lb 29 p_gt) (false :: p_gt) (sh_gt r i n ts m ps) (hp_gt r i n ts m ps)=
  (bif decide (i < (↑n:Int)) then (bif decide ((0:Int)≤i)&&decide (i < (↑n:Int)) then (bif isRat (ts.getD (i.toNat*(3:Nat)+(0:Nat)) undef) (ts.getD (i.toNat*(3:Nat)+(1:Nat)) undef) (ts.getD (i.toNat*(3:Nat)+(2:Nat)) undef)&&true then (bif K.gr (asS (ts.getD (i.toNat*(3:Nat)+(1:Nat)) undef)) (asS (ts.getD (i.toNat*(3:Nat)+(2:Nat)) undef)) then some (.ret,slots 38 [(1,(.ptr 0 0)),(2,(.val (.bool true))),(3,(.val (.int .i64 i)))], [(.row (.cells [(.lst false 24 n (vrow (3:Nat) ts)),(.lst false 38 m (vrow (6:Nat) ps))]) 30 .live)]) else (bif inR IntKind.i64 (i+(1:Int)) then some (.normal,slots 38 [(1,(.ptr 0 0)),(2,(.val (.bool r))),(3,(.val (.int .i64 (i+(1:Int)))))], [(.row (.cells [(.lst false 24 n (vrow (3:Nat) ts)),(.lst false 38 m (vrow (6:Nat) ps))]) 30 .live)]) else none)) else none) else none) else some ((.exit 0),slots 38 [(1,(.ptr 0 0)),(2,(.val (.bool r))),(3,(.val (.int .i64 i)))], [(.row (.cells [(.lst false 24 n (vrow (3:Nat) ts)),(.lst false 38 m (vrow (6:Nat) ps))]) 30 .live)])):=by kernel_rfl
theorem step_gt {r:Bool} {i:Int} {n:Nat} {ts:List Value} {m:Nat} {ps:List Value} {e:Ex} {T:List AV} {H:Hp} (h:roundA Tryz.prog (EGp hg0) 29 [1,2,3] (lb 29 p_gt) (false :: p_gt) (sh_gt r i n ts m ps) (hp_gt r i n ts m ps)=some (e,T,H)):V.Ends Tryz.prog false 0 0 (lb 29 p_gt) (sh_gt r i n ts m ps) (hp_gt r i n ts m ps) e T H:=
 round_ends ((meets_none _).add eGreat.gR) loops_none mixed code_gt h
section
variable {r : Bool} {n m : Nat} {ts ps : List Value}
theorem gt_step (i:Nat) (hi:i < n) (hn:n≤9223372036854775807) (h:okT ts i=true) (hg:grT ts i=false):V.Ends Tryz.prog false 0 0 (lb 29 p_gt) (sh_gt r i n ts m ps) (hp_gt r i n ts m ps) .normal (sh_gt r ((i+1:Nat):Int) n ts m ps) (hp_gt r ((i+1:Nat):Int) n ts m ps):=by
 have hr:=round_gt hg0 r i n ts m ps
 unfold okT at h
 unfold grT at hg
 simp only [Int.toNat_natCast] at hr
 rw [dT (show (i:Int) < (n:Int) by omega),dT (show (0:Int)≤(i:Int) by omega),h,hg,i64T (z:=(i:Int)+1) (by omega)] at hr
 exact step_gt hr
theorem gt_stop (i:Nat) (hi:i < n) (h:okT ts i=true) (hg:grT ts i=true):V.Ends Tryz.prog false 0 0 (lb 29 p_gt) (sh_gt r i n ts m ps) (hp_gt r i n ts m ps) .ret (sh_gt true i n ts m ps) (hp_gt true i n ts m ps):=by
 have hr:=round_gt hg0 r i n ts m ps
 unfold okT at h
 unfold grT at hg
 simp only [Int.toNat_natCast] at hr
 rw [dT (show (i:Int) < (n:Int) by omega),dT (show (0:Int)≤(i:Int) by omega),h,hg] at hr
 exact step_gt hr
theorem gt_go (hn:n≤9223372036854775807) (h:∀ j,j < n→okT ts j=true∧grT ts j=false) (k:Nat):∀ i:Nat,n=i+k→LoopTo Tryz.prog (lb 29 p_gt) (sh_gt r i n ts m ps) (hp_gt r i n ts m ps) (.exit 0) (sh_gt r n n ts m ps) (hp_gt r n n ts m ps):=by
 induction k with
 | zero=>
  intro i hi
  have:i=n:=by omega
  subst this
  refine .last (step_gt ?_) (by intro h;cases h)
  rw [round_gt,dF (show ¬ ((i:Nat):Int) < (i:Int) by omega)]
  rfl
 | succ k ih=>
  intro i hi
  obtain ⟨h1,h2⟩:=h i (by omega)
  exact .more (gt_step i (by omega) hn h1 h2) (ih (i+1) (by omega))
theorem gu_go (hn:n≤9223372036854775807) (h:∀ j,j < n→okT ts j=true) (q:Nat) (hq:q < n) (hg:∀ j,j < q→grT ts j=false) (hb:grT ts q=true) (k:Nat):∀ i:Nat,q=i+k→LoopTo Tryz.prog (lb 29 p_gt) (sh_gt r i n ts m ps) (hp_gt r i n ts m ps) .ret (sh_gt true q n ts m ps) (hp_gt true q n ts m ps):=by
 induction k with
 | zero=>
  intro i hi
  have:i=q:=by omega
  subst this
  exact .last (gt_stop i hq (h i hq) hb) (by intro h;cases h)
 | succ k ih=>
  intro i hi
  exact .more (gt_step i (by omega) hn (h i (by omega)) (hg i (by omega))) (ih (i+1) (by omega))
end
def pre_gt (r:Bool) (i:Int) (n:Nat) (ts:List Value) (m:Nat) (ps:List Value):Prop:=i=0∧n≤9223372036854775807∧∀ j,j < n→okT ts j=true∧grT ts j=false
def post_gt (r:Bool) (i:Int) (n:Nat) (ts:List Value) (m:Nat) (ps:List Value) (ρ:Int):Prop:=True
theorem loop_gt (r:Bool) (i:Int) (n:Nat) (ts:List Value) (m:Nat) (ps:List Value) (h:pre_gt r i n ts m ps):∃ ρ:Int,LoopTo Tryz.prog (lb 29 p_gt) (sh_gt r i n ts m ps) (hp_gt r i n ts m ps) (.exit 0) (sh_gt r ρ n ts m ps) (hp_gt r ρ n ts m ps)∧post_gt r i n ts m ps ρ:=by
 obtain ⟨rfl,hn,h⟩:=h
 exact ⟨_,gt_go hn h _ 0 (Nat.zero_add _).symm,trivial⟩
def told_gt (κ:Bool→Int→Nat→List Value→Nat→List Value→Bool) (φ:Bool→Int→Nat→List Value→Nat→List Value→Int) (T:List AV) (H:Hp):Option (Bool×Ex×List AV×Hp):=
 match lget T 1,lget T 2,lget T 3,H with
 | .ptr 0 0, .val (.bool r), .val (.int .i64 i), [.row (.cells [.lst false 24 n f_ts, .lst false 38 m f_ps]) 30 .live]=>bif T.length==38 then some (okV 3 n f_ts&&okV 6 m f_ps&&κ r i n (rowV 3 n f_ts) m (rowV 6 m f_ps), .exit 0,sh_gt r ((φ r i n (rowV 3 n f_ts) m (rowV 6 m f_ps))) n (rowV 3 n f_ts) m (rowV 6 m f_ps),hp_gt r ((φ r i n (rowV 3 n f_ts) m (rowV 6 m f_ps))) n (rowV 3 n f_ts) m (rowV 6 m f_ps)) else none
 | _,_,_,_=>none
abbrev KT_gt:Type:=Bool→Int→Nat→List Value→Nat→List Value→Bool
abbrev FT_gt:Type:=Bool→Int→Nat→List Value→Nat→List Value→Int
def LL_gt (κ:KT_gt) (φ:FT_gt) (L:LTab):LTab:=addLn 0 29 p_gt [1,2,3] (told_gt κ φ) L
def phi_gt (r:Bool) (i:Int) (n:Nat) (ts:List Value) (m:Nat) (ps:List Value):Int:=Classical.epsilon fun ρ=>LoopTo Tryz.prog (lb 29 p_gt) (sh_gt r i n ts m ps) (hp_gt r i n ts m ps) (.exit 0) (sh_gt r (ρ) n ts m ps) (hp_gt r (ρ) n ts m ps)∧post_gt r i n ts m ps ρ
theorem phi_gt_spec (r:Bool) (i:Int) (n:Nat) (ts:List Value) (m:Nat) (ps:List Value) (h:pre_gt r i n ts m ps):LoopTo Tryz.prog (lb 29 p_gt) (sh_gt r i n ts m ps) (hp_gt r i n ts m ps) (.exit 0) (sh_gt r ((phi_gt r i n ts m ps)) n ts m ps) (hp_gt r ((phi_gt r i n ts m ps)) n ts m ps)∧post_gt r i n ts m ps (phi_gt r i n ts m ps):=Classical.epsilon_spec (loop_gt r i n ts m ps h)
def cond_gt (r:Bool) (i:Int) (n:Nat) (ts:List Value) (m:Nat) (ps:List Value):Bool:= @decide (pre_gt r i n ts m ps) (Classical.propDecidable _)
theorem cond_gt_eq (r:Bool) (i:Int) (n:Nat) (ts:List Value) (m:Nat) (ps:List Value) (h:pre_gt r i n ts m ps):cond_gt r i n ts m ps=true:= @decide_eq_true _ (Classical.propDecidable _) h
theorem told_gt_ok (T:List AV) (H:Hp) (e:Ex) (T1:List AV) (H1:Hp) (h:told_gt cond_gt phi_gt T H=some (true,e,T1,H1)):V.Ends Tryz.prog false 0 0 (.loop (lb 29 p_gt)) T H e T1 H1:=by
 unfold told_gt at h
 split at h
 ·rename_i r i n f_ts m f_ps h1 h2 h3
  rw [Bool.cond_eq_ite] at h
  split at h
  ·rename_i hlen
   rw [beq_iff_eq] at hlen
   simp only [Option.some.injEq,Prod.mk.injEq,Bool.and_eq_true,decide_eq_true_eq] at h
   obtain ⟨⟨⟨k1,k2⟩,k3⟩,rfl,rfl,rfl⟩:=h
   have kc:= @of_decide_eq_true _ (Classical.propDecidable _) k3
   refine Ends.pre (Ends.preH (phi_gt_spec r i n (rowV 3 n f_ts) m (rowV 6 m f_ps) kc).1.ends (sameH.cons ⟨⟨rfl,fun _ _ _ _ _ hh=>rel_trj (by kernel_rfl) (by kernel_rfl) k1 k2 hh⟩,rfl,rfl⟩ sameH.nil)) (fun α B w D ys hr=>slots_rel hlen (fun p hp y hy=> ?_) hr)
   simp only [List.mem_cons,List.not_mem_nil,or_false] at hp
   rcases hp with rfl | rfl | rfl
   ·rw [h1] at hy;exact hy
   ·rw [h2] at hy;exact hy
   ·rw [h3] at hy;exact hy
  ·cases h
 ·cases h
theorem LL_gt_ok {L:LTab} (h:LOk Tryz.prog L):LOk Tryz.prog (LL_gt cond_gt phi_gt L):=h.add2n body_gt told_gt_ok
abbrev p_gu:List Bool:= [false,true,false,true]
def sh_gu (r:Bool) (i:Int) (n:Nat) (ts:List Value) (m:Nat) (ps:List Value):List AV:=slots 38 [(1, .ptr 0 0),(2, .val (.bool r)),(3, .val (.int .i64 i))]
def hp_gu (r:Bool) (i:Int) (n:Nat) (ts:List Value) (m:Nat) (ps:List Value):Hp:= [.row (.cells [.lst false 24 n (vrow 3 ts), .lst false 38 m (vrow 6 ps)]) 30 .live]
theorem body_gu:subC Tryz.prog 29 p_gu=some (.loop (lb 29 p_gu)):=by kernel_rfl
def pre_gu (r:Bool) (i:Int) (n:Nat) (ts:List Value) (m:Nat) (ps:List Value):Prop:=i=0∧n≤9223372036854775807∧(∀ j,j < n→okT ts j=true)∧∃ q,q < n∧(∀ j,j < q→grT ts j=false)∧grT ts q=true
def post_gu (r:Bool) (i:Int) (n:Nat) (ts:List Value) (m:Nat) (ps:List Value) (ρ:Bool×Int):Prop:=ρ.1=true
theorem loop_gu (r:Bool) (i:Int) (n:Nat) (ts:List Value) (m:Nat) (ps:List Value) (h:pre_gu r i n ts m ps):∃ ρ:Bool×Int,LoopTo Tryz.prog (lb 29 p_gu) (sh_gu r i n ts m ps) (hp_gu r i n ts m ps) .ret (sh_gu ρ.1 ρ.2 n ts m ps) (hp_gu ρ.1 ρ.2 n ts m ps)∧post_gu r i n ts m ps ρ:=by
 obtain ⟨rfl,hn,h,q,hq,hg,hb⟩:=h
 exact ⟨(true,(q:Int)),gu_go hn h q hq hg hb q 0 (by omega),rfl⟩
def told_gu (κ:Bool→Int→Nat→List Value→Nat→List Value→Bool) (φ:Bool→Int→Nat→List Value→Nat→List Value→Bool×Int) (T:List AV) (H:Hp):Option (Bool×Ex×List AV×Hp):=
 match lget T 1,lget T 2,lget T 3,H with
 | .ptr 0 0, .val (.bool r), .val (.int .i64 i), [.row (.cells [.lst false 24 n f_ts, .lst false 38 m f_ps]) 30 .live]=>bif T.length==38 then some (okV 3 n f_ts&&okV 6 m f_ps&&κ r i n (rowV 3 n f_ts) m (rowV 6 m f_ps), .ret,sh_gu ((φ r i n (rowV 3 n f_ts) m (rowV 6 m f_ps)).1) ((φ r i n (rowV 3 n f_ts) m (rowV 6 m f_ps)).2) n (rowV 3 n f_ts) m (rowV 6 m f_ps),hp_gu ((φ r i n (rowV 3 n f_ts) m (rowV 6 m f_ps)).1) ((φ r i n (rowV 3 n f_ts) m (rowV 6 m f_ps)).2) n (rowV 3 n f_ts) m (rowV 6 m f_ps)) else none
 | _,_,_,_=>none
abbrev KT_gu:Type:=Bool→Int→Nat→List Value→Nat→List Value→Bool
abbrev FT_gu:Type:=Bool→Int→Nat→List Value→Nat→List Value→Bool×Int
def LL_gu (κ:KT_gu) (φ:FT_gu) (L:LTab):LTab:=addLn 0 29 p_gu [1,2,3] (told_gu κ φ) L
def phi_gu (r:Bool) (i:Int) (n:Nat) (ts:List Value) (m:Nat) (ps:List Value):Bool×Int:=Classical.epsilon fun ρ=>LoopTo Tryz.prog (lb 29 p_gu) (sh_gu r i n ts m ps) (hp_gu r i n ts m ps) (.ret) (sh_gu (ρ.1) (ρ.2) n ts m ps) (hp_gu (ρ.1) (ρ.2) n ts m ps)∧post_gu r i n ts m ps ρ
theorem phi_gu_spec (r:Bool) (i:Int) (n:Nat) (ts:List Value) (m:Nat) (ps:List Value) (h:pre_gu r i n ts m ps):LoopTo Tryz.prog (lb 29 p_gu) (sh_gu r i n ts m ps) (hp_gu r i n ts m ps) (.ret) (sh_gu ((phi_gu r i n ts m ps).1) ((phi_gu r i n ts m ps).2) n ts m ps) (hp_gu ((phi_gu r i n ts m ps).1) ((phi_gu r i n ts m ps).2) n ts m ps)∧post_gu r i n ts m ps (phi_gu r i n ts m ps):=Classical.epsilon_spec (loop_gu r i n ts m ps h)
def cond_gu (r:Bool) (i:Int) (n:Nat) (ts:List Value) (m:Nat) (ps:List Value):Bool:= @decide (pre_gu r i n ts m ps) (Classical.propDecidable _)
theorem cond_gu_eq (r:Bool) (i:Int) (n:Nat) (ts:List Value) (m:Nat) (ps:List Value) (h:pre_gu r i n ts m ps):cond_gu r i n ts m ps=true:= @decide_eq_true _ (Classical.propDecidable _) h
theorem told_gu_ok (T:List AV) (H:Hp) (e:Ex) (T1:List AV) (H1:Hp) (h:told_gu cond_gu phi_gu T H=some (true,e,T1,H1)):V.Ends Tryz.prog false 0 0 (.loop (lb 29 p_gu)) T H e T1 H1:=by
 unfold told_gu at h
 split at h
 ·rename_i r i n f_ts m f_ps h1 h2 h3
  rw [Bool.cond_eq_ite] at h
  split at h
  ·rename_i hlen
   rw [beq_iff_eq] at hlen
   simp only [Option.some.injEq,Prod.mk.injEq,Bool.and_eq_true,decide_eq_true_eq] at h
   obtain ⟨⟨⟨k1,k2⟩,k3⟩,rfl,rfl,rfl⟩:=h
   have kc:= @of_decide_eq_true _ (Classical.propDecidable _) k3
   refine Ends.pre (Ends.preH (phi_gu_spec r i n (rowV 3 n f_ts) m (rowV 6 m f_ps) kc).1.ends (sameH.cons ⟨⟨rfl,fun _ _ _ _ _ hh=>rel_trj (by kernel_rfl) (by kernel_rfl) k1 k2 hh⟩,rfl,rfl⟩ sameH.nil)) (fun α B w D ys hr=>slots_rel hlen (fun p hp y hy=> ?_) hr)
   simp only [List.mem_cons,List.not_mem_nil,or_false] at hp
   rcases hp with rfl | rfl | rfl
   ·rw [h1] at hy;exact hy
   ·rw [h2] at hy;exact hy
   ·rw [h3] at hy;exact hy
  ·cases h
 ·cases h
theorem LL_gu_ok {L:LTab} (h:LOk Tryz.prog L):LOk Tryz.prog (LL_gu cond_gu phi_gu L):=h.add2n body_gu told_gu_ok
structure Gg where
 gt:Nat→List Value→Nat→List Value→Bool
 go:Nat→List Value→Nat→List Value→Bool
def gtN (n:Nat) (ts:List Value) (m:Nat) (ps:List Value):Bool:=(List.range n).any (grT ts) ||(decide (10 < n)&&decide (n≤1000) ||decide (1005 < n)) ||gpN m ps
def gg0:Gg where
 gt:=gtN
 go n ts m ps:=okTs n ts&&okpN m ps
def tGT (G:Gg):TF:=fun args=>match args with
 | [.agg [.lst _ 24 n f, .lst _ 38 m g]]=>some (okV 3 n f&&okV 6 m g&&G.go n (rowV 3 n f) m (rowV 6 m g), .val (.bool (G.gt n (rowV 3 n f) m (rowV 6 m g))))
 | _=>none
def CGt (T:Tg):FuncId→TF:=addC 9 (tGP T) noC
theorem gt_call (T:Tg) (κ:KT_gt) (φ:FT_gt) (n:Nat) (ts:List Value) (m:Nat) (ps:List Value):callA Tryz.prog ⟨CGt T,Kall,LL_gt κ φ noL⟩ 10 10 29 [.agg [.lst false 24 n (vrow 3 ts), .lst false 38 m (vrow 6 ps)]]=
  (bif okV (3:Nat) n (vrow (3:Nat) ts)&&okV (6:Nat) m (vrow (6:Nat) ps)&&κ false (0:Int) n (rowV (3:Nat) n (vrow (3:Nat) ts)) m (rowV (6:Nat) m (vrow (6:Nat) ps)) then (bif decide ((10:Int) < (↑n:Int)) then (bif decide ((↑n:Int)≤(1000:Int)) then some (.val (.bool true)) else (bif decide ((1005:Int) < (↑n:Int)) then some (.val (.bool true)) else (bif okV (6:Nat) m (vrow (6:Nat) (rowV (6:Nat) m (vrow (6:Nat) ps)))&&T.okp m (rowV (6:Nat) m (vrow (6:Nat) (rowV (6:Nat) m (vrow (6:Nat) ps)))) then some (.val (.bool (T.gp m (rowV (6:Nat) m (vrow (6:Nat) (rowV (6:Nat) m (vrow (6:Nat) ps))))))) else none))) else (bif decide ((1005:Int) < (↑n:Int)) then some (.val (.bool true)) else (bif okV (6:Nat) m (vrow (6:Nat) (rowV (6:Nat) m (vrow (6:Nat) ps)))&&T.okp m (rowV (6:Nat) m (vrow (6:Nat) (rowV (6:Nat) m (vrow (6:Nat) ps)))) then some (.val (.bool (T.gp m (rowV (6:Nat) m (vrow (6:Nat) (rowV (6:Nat) m (vrow (6:Nat) ps))))))) else none))) else none):=by kernel_rfl
theorem gu_call (T:Tg) (κ:KT_gu) (φ:FT_gu) (n:Nat) (ts:List Value) (m:Nat) (ps:List Value):callA Tryz.prog ⟨CGt T,Kall,LL_gu κ φ noL⟩ 10 10 29 [.agg [.lst false 24 n (vrow 3 ts), .lst false 38 m (vrow 6 ps)]]=
  (bif okV (3:Nat) n (vrow (3:Nat) ts)&&okV (6:Nat) m (vrow (6:Nat) ps)&&κ false (0:Int) n (rowV (3:Nat) n (vrow (3:Nat) ts)) m (rowV (6:Nat) m (vrow (6:Nat) ps)) then some (.val (.bool ((φ false (0:Int) n (rowV (3:Nat) n (vrow (3:Nat) ts)) m (rowV (6:Nat) m (vrow (6:Nat) ps))).fst))) else none):=by kernel_rfl
theorem CGt_ok:Meets Tryz.prog (CGt tg0):=(meets_none _).add eGP
theorem eGT:Entry Tryz.prog 29 (tGT gg0):=by
 refine entry_at (by kernel_rfl) (fun args r h=> ?_)
 unfold tGT at h
 split at h
 ·rename_i fl n f fl2 m g
  simp only [Option.some.injEq,Prod.mk.injEq,Bool.and_eq_true] at h
  obtain ⟨⟨⟨h1,h2⟩,h3⟩,rfl⟩:=h
  have hI:ImpL [.agg [.lst fl 24 n f, .lst fl2 38 m g]] [.agg [.lst false 24 n (vrow 3 (rowV 3 n f)), .lst false 38 m (vrow 6 (rowV 6 m g))]]:=
   ImpL.cons (Imp.agg (ImpL.cons (Imp.row (by kernel_rfl) h1) (ImpL.cons (Imp.row (by kernel_rfl) h2) (ImpL.refl _)))) (ImpL.refl _)
  have l1:=rowV_len 3 n f
  have l2:=rowV_len 6 m g
  generalize rowV 3 n f=ts at*
  generalize rowV 6 m g=ps at*
  have h3:(okTs n ts&&okpN m ps)=true:=h3
  rw [Bool.and_eq_true] at h3
  obtain ⟨k1,k2⟩:=h3
  obtain ⟨hn,ht⟩:=okTs_out k1
  by_cases hg:(List.range n).any (grT ts)=true
  ·have hq:pre_gu false 0 n ts m ps:= ⟨rfl,hn,ht,first_of n hg⟩
   refine ⟨⟨CGt tg0,Kall,LL_gu cond_gu phi_gu noL⟩,10,10,_,_,CGt_ok,(LL_gu_ok LOk.none).ok, ?_,hI,Imp.refl _⟩
   have e:gg0.gt n ts m ps=true:=by show gtN n ts m ps=true;unfold gtN;rw [hg];rfl
   rw [gu_call,okV_vrow,okV_vrow,rowV_vrow l1,rowV_vrow l2,cond_gu_eq _ _ _ _ _ _ hq,e,show (phi_gu false 0 n ts m ps).fst=true from (phi_gu_spec _ _ _ _ _ _ hq).2];rfl
  ·have hq:pre_gt false 0 n ts m ps:= ⟨rfl,hn,fun j hj=> ⟨ht j hj,none_lt hg hj⟩⟩
   refine ⟨⟨CGt tg0,Kall,LL_gt cond_gt phi_gt noL⟩,10,10,_,_,CGt_ok,(LL_gt_ok LOk.none).ok, ?_,hI,Imp.refl _⟩
   have e:gg0.gt n ts m ps=((decide (10 < n)&&decide (n≤1000) ||decide (1005 < n)) ||tg0.gp m ps):=by show gtN n ts m ps=_;unfold gtN;rw [Bool.eq_false_iff.2 hg];rfl
   rw [gt_call]
   simp only [okV_vrow,rowV_vrow l1,rowV_vrow l2,cond_gt_eq _ _ _ _ _ _ hq,e,show tg0.okp m ps=true from k2,Bool.and_self,cond_true]
   by_cases h5:1005 < n
   ·rw [decide_eq_true h5,dT (show (1005:Int) < (n:Int) by omega),dT (show (10:Int) < (n:Int) by omega),dF (show ¬ (n:Int)≤1000 by omega),Bool.or_true];rfl
   ·rw [decide_eq_false h5,dF (show ¬ (1005:Int) < (n:Int) by omega)]
    by_cases h6:10 < n
    ·rw [decide_eq_true h6,dT (show (10:Int) < (n:Int) by omega)]
     by_cases h7:n≤1000
     ·rw [decide_eq_true h7,dT (show (n:Int)≤1000 by omega)];rfl
     ·rw [decide_eq_false h7,dF (show ¬ (n:Int)≤1000 by omega)];rfl
    ·rw [decide_eq_false h6,dF (show ¬ (10:Int) < (n:Int) by omega)];rfl
 ·cases h
end
end Go.Proofs.YtdnmkehncpfnnaaGreat.L
namespace Go.Proofs.YtdnmkehncpfnnaaGreat.L
open Go Go.V Go.RowKit Go.Proofs.YtdnmkehncpfnnaaGreat.Sp
open Go.Proofs (Tryz.prog)
noncomputable section
def gXR (f:TF):TF:=fun args=>match args with
 | a :: .agg [.val x, .val y, .val z] :: l=>andC (isRat x y z) (f (a :: av3' x y z :: l))
 | _=>none
theorem entry_gXR {g:FuncId} {f:TF} (h:Entry Tryz.prog g f):Entry Tryz.prog g (gXR f):=h.less fun args r hr=>by
 unfold L.gXR at hr
 split at hr
 ·obtain ⟨h1,h2⟩:=andC_out hr
  obtain ⟨e1,e2,e3⟩:=isRat_out h1
  rw [e1,e2,e3];exact h2
 ·cases hr
def EPc (A:Ag) (Z:Qg):Env:= ⟨addC 16 (gXR (tAt A Z)) noC,Kall,noL⟩
abbrev p_pc:List Bool:= [false,true,false,true,true]
def sh_pc (at8:Int) (r:Bool) (n1:Nat) (ts1:List Value) (n2:Int) (i:Int) (n:Nat) (ts:List Value) (m:Nat) (ps:List Value) (xb:Bool) (xn:ByteArray) (xd:ByteArray):List AV:=slots 175 [(1, .val (.int .u8 at8)),(3, .ptr 0 0),(5, .ptr 1 0),(6, .val (.bool r)),(28, .lst false 24 n1 (vrow 3 ts1)),(29, .val (.int .i64 n2)),(30, .val (.int .i64 i))]
def hp_pc (at8:Int) (r:Bool) (n1:Nat) (ts1:List Value) (n2:Int) (i:Int) (n:Nat) (ts:List Value) (m:Nat) (ps:List Value) (xb:Bool) (xn:ByteArray) (xd:ByteArray):Hp:= [.row (.cells [.lst false 24 n (vrow 3 ts), .lst false 38 m (vrow 6 ps)]) 30 .live, .row (.cells [.val (.bool xb), .val (.string xn), .val (.string xd)]) 24 .live]
theorem body_pc:subC Tryz.prog 4 p_pc=some (.loop (lb 4 p_pc)):=by kernel_rfl
theorem code_pc:subC Tryz.prog 4 (false :: p_pc)=some (lb 4 p_pc):=by kernel_rfl
theorem round_pc (A:Ag) (Z:Qg) (at8:Int) (r:Bool) (n1:Nat) (ts1:List Value) (n2:Int) (i:Int) (n:Nat) (ts:List Value) (m:Nat) (ps:List Value) (xb:Bool) (xn:ByteArray) (xd:ByteArray):letI q_8:=(rowV (3:Nat) n (vrow (3:Nat) ts));letI q_9:=(rowV (6:Nat) m (vrow (6:Nat) ps));letI q_7:=(ts1.getD (i.toNat*(3:Nat)+(0:Nat)) undef);letI q_3:=(ts1.getD (i.toNat*(3:Nat)+(1:Nat)) undef);letI q_4:=(ts1.getD (i.toNat*(3:Nat)+(2:Nat)) undef);letI q_1:=(A.ax n q_8 m q_9 (asB q_7) (asS q_3) (asS q_4));letI q_2:=(A.ay n q_8 m q_9 (asB q_7) (asS q_3) (asS q_4));letI q_5:=(strEq (Z.qs q_1) (asS (ps.getD (i.toNat*(6:Nat)+(1:Nat)) undef))&&(strEq (Z.qd q_1) (asS (ps.getD (i.toNat*(6:Nat)+(2:Nat)) undef))&&true));letI q_6:=(strEq (Z.qs q_2) (asS (ps.getD (i.toNat*(6:Nat)+(4:Nat)) undef))&&(strEq (Z.qd q_2) (asS (ps.getD (i.toNat*(6:Nat)+(5:Nat)) undef))&&true));letI q_10:=(ps.getD (i.toNat*(6:Nat)+(0:Nat)) undef);letI q_11:=(ps.getD (i.toNat*(6:Nat)+(3:Nat)) undef);
  (roundA Tryz.prog (EPc A Z) 4 [1,3,5,6,28,29,30] (lb 4 p_pc) (false :: p_pc) (sh_pc at8 r n1 ts1 n2 i n ts m ps xb xn xd) (hp_pc at8 r n1 ts1 n2 i n ts m ps xb xn xd)=(bif decide (i < n2) then (bif decide ((0:Int)≤i)&&decide (i < (↑n1:Int)) then (bif [(fun q=>vrow (3:Nat) ts1 i.toNat ((0:Nat)+q)) (nat_lit 0),(fun q=>vrow (3:Nat) ts1 i.toNat ((0:Nat)+q)) (nat_lit 1),(fun q=>vrow (3:Nat) ts1 i.toNat ((0:Nat)+q)) (nat_lit 2)].all oneA then (bif isRat q_7 q_3 q_4&&(okV (3:Nat) n (vrow (3:Nat) ts)&&okV (6:Nat) m (vrow (6:Nat) ps)&&A.ak n q_8 m q_9 (asS q_3) (asS q_4)) then (bif !decide (A.ae n q_8 m q_9 (asB q_7) (asS q_3) (asS q_4)=(0:Int)) then some (.ret,slots 175 [(1,(.val (.int .u8 at8))),(3,(.ptr 0 0)),(5,(.ptr 1 0)),(6,(.val (.bool false))),(28,(.lst false 24 n1 (vrow (3:Nat) ts1))),(29,(.val (.int .i64 n2))),(30,(.val (.int .i64 i)))], [(.row (.cells [(.lst false 24 n (vrow (3:Nat) ts)),(.lst false 38 m (vrow (6:Nat) ps))]) 30 .live),(.row (.cells [(.val (.bool xb)),(.val (.string xn)),(.val (.string xd))]) 24 .live)]) else (bif decide ((0:Int)≤i)&&decide (i < (↑m:Int)) then (bif isB q_10 then (bif isS (ps.getD (i.toNat*(6:Nat)+(1:Nat)) undef) then (bif isS (ps.getD (i.toNat*(6:Nat)+(2:Nat)) undef) then (bif isB q_11 then (bif isS (ps.getD (i.toNat*(6:Nat)+(4:Nat)) undef) then (bif isS (ps.getD (i.toNat*(6:Nat)+(5:Nat)) undef) then (bif bif true then !(Z.qn q_1==asB q_10&&q_5&&(Z.qn q_2==asB q_11&&q_6&&true)) else Z.qn q_1==asB q_10&&q_5&&(Z.qn q_2==asB q_11&&q_6&&true) then some (.ret,slots 175 [(1,(.val (.int .u8 at8))),(3,(.ptr 0 0)),(5,(.ptr 1 0)),(6,(.val (.bool false))),(28,(.lst false 24 n1 (vrow (3:Nat) ts1))),(29,(.val (.int .i64 n2))),(30,(.val (.int .i64 i)))], [(.row (.cells [(.lst false 24 n (vrow (3:Nat) ts)),(.lst false 38 m (vrow (6:Nat) ps))]) 30 .live),(.row (.cells [(.val (.bool xb)),(.val (.string xn)),(.val (.string xd))]) 24 .live)]) else (bif inR IntKind.i64 (i+(1:Int)) then some (.normal,slots 175 [(1,(.val (.int .u8 at8))),(3,(.ptr 0 0)),(5,(.ptr 1 0)),(6,(.val (.bool r))),(28,(.lst false 24 n1 (vrow (3:Nat) ts1))),(29,(.val (.int .i64 n2))),(30,(.val (.int .i64 (i+(1:Int)))))], [(.row (.cells [(.lst false 24 n (vrow (3:Nat) ts)),(.lst false 38 m (vrow (6:Nat) ps))]) 30 .live),(.row (.cells [(.val (.bool xb)),(.val (.string xn)),(.val (.string xd))]) 24 .live)]) else none)) else none) else none) else none) else none) else none) else none) else none)) else none) else none) else none) else some ((.exit 0),slots 175 [(1,(.val (.int .u8 at8))),(3,(.ptr 0 0)),(5,(.ptr 1 0)),(6,(.val (.bool r))),(28,(.lst false 24 n1 (vrow (3:Nat) ts1))),(29,(.val (.int .i64 n2))),(30,(.val (.int .i64 i)))], [(.row (.cells [(.lst false 24 n (vrow (3:Nat) ts)),(.lst false 38 m (vrow (6:Nat) ps))]) 30 .live),(.row (.cells [(.val (.bool xb)),(.val (.string xn)),(.val (.string xd))]) 24 .live)]))):=by kernel_rfl
theorem step_pc {at8:Int} {r:Bool} {n1:Nat} {ts1:List Value} {n2:Int} {i:Int} {n:Nat} {ts:List Value} {m:Nat} {ps:List Value} {xb:Bool} {xn:ByteArray} {xd:ByteArray} {e:Ex} {T:List AV} {H:Hp} (h:roundA Tryz.prog (EPc ag0 sq0) 4 [1,3,5,6,28,29,30] (lb 4 p_pc) (false :: p_pc) (sh_pc at8 r n1 ts1 n2 i n ts m ps xb xn xd) (hp_pc at8 r n1 ts1 n2 i n ts m ps xb xn xd)=some (e,T,H)):V.Ends Tryz.prog false 0 0 (lb 4 p_pc) (sh_pc at8 r n1 ts1 n2 i n ts m ps xb xn xd) (hp_pc at8 r n1 ts1 n2 i n ts m ps xb xn xd) e T H:=
 round_ends ((meets_none _).add (entry_gXR eAt)) loops_none mixed code_pc h
section
variable {at8 : Int} {r : Bool} {n : Nat} {ts ps : List Value} {xb : Bool} {xn xd : BA}
structure PcOk (n:Nat) (ts ps:List Value):Prop where
 l1:ts.length=n*3
 l2:ps.length=n*6
 ko:koN n ts n ps=true
 ck:ckN n ts n ps=0
theorem PcOk.pl {n:Nat} {ts ps:List Value} (h:PcOk n ts ps):PlOk n ts n ps:=plOk_of h.ko h.ck
theorem srN_own {n:Nat} {ts:List Value} (h:TsOk n ts) {i:Nat} (hi:i < n):srN ts (qt ts i) n=i:=by
 refine (srN_uniq (by omega) (fun k hk=> ?_) (fun _=>Rat.lt_irrefl)).symm
 have h1:=h.up k (by omega)
 have h2:=h.le (show k+1≤i by omega) hi
 grind
theorem pl1_own {n:Nat} {ts:List Value} (h:TsOk n ts) {i:Nat} (hi:i < n) (c:Nat→Rat):pl1 n ts c (qt ts i)=c i:=by
 unfold pl1
 rw [srN_own h hi]
 by_cases h0:i=0
 ·subst h0;rw [if_pos rfl]
 ·rw [if_neg h0,if_neg (show ¬ i=n by omega)]
  have h1:=h.up (i - 1) (by omega)
  rw [show i - 1+1=i by omega] at h1
  have h2:qt ts i - qt ts (i - 1)≠0:=by grind
  rw [show (qt ts i - qt ts (i - 1)) / (qt ts i - qt ts (i - 1))=1 by grind]
  unfold at1N
  grind
theorem at_own {n:Nat} {ts ps:List Value} (h:PcOk n ts ps) {i:Nat} (hi:i < n):
  ag0.ak n ts n ps (asS (ts.getD (i*3+1) undef)) (asS (ts.getD (i*3+2) undef))=true∧ag0.ae n ts n ps (asB (ts.getD (i*3+0) undef)) (asS (ts.getD (i*3+1) undef)) (asS (ts.getD (i*3+2) undef))=0∧
  ag0.ax n ts n ps (asB (ts.getD (i*3+0) undef)) (asS (ts.getD (i*3+1) undef)) (asS (ts.getD (i*3+2) undef))=px ps i∧ag0.ay n ts n ps (asB (ts.getD (i*3+0) undef)) (asS (ts.getD (i*3+1) undef)) (asS (ts.getD (i*3+2) undef))=py ps i:=by
 have hp:=h.pl
 have hk:=h.ko
 obtain ⟨hx,_⟩:=koN_out hk
 obtain ⟨a1,a2⟩:=okX_out (hx i hi)
 have hck:sq0.ck (asB (ts.getD (i*3+0) undef)) (asS (ts.getD (i*3+1) undef)) (asS (ts.getD (i*3+2) undef))=0:=(ckE_go ((ckN_ok h.ck).2.2.2 i hi)).1
 have he:atE n ts n ps (asB (ts.getD (i*3+0) undef)) (asS (ts.getD (i*3+1) undef)) (asS (ts.getD (i*3+2) undef))=0:=by
  unfold atE
  rw [if_pos ⟨h.ck,hck⟩]
 refine ⟨?_,he,(if_pos he).trans (pl1_own hp.ts hi (px ps)),(if_pos he).trans (pl1_own hp.ts hi (py ps))⟩
 show (koN n ts n ps&&okm _ _)=true
 rw [hk,a2];rfl
theorem can_eq {x y z u v t:Value} {p q:Rat} (h:AV.agg [.val x, .val y, .val z, .val u, .val v, .val t]=sq0.pair p q):(sq0.qn p==asB x&&(strEq (sq0.qs p) (asS y)&&(strEq (sq0.qd p) (asS z)&&true))&&(sq0.qn q==asB u&&(strEq (sq0.qs q) (asS v)&&(strEq (sq0.qd q) (asS t)&&true))&&true))=true:=by
 simp only [Qg.pair,AV.agg.injEq,List.cons.injEq,AV.val.injEq,and_true] at h
 obtain ⟨rfl,rfl,rfl,rfl,rfl,rfl⟩:=h
 simp only [asB_bool,asS_str,beq_self_eq_true,strEq_self,Bool.and_self]
theorem pc_step (h:PcOk n ts ps) (i:Nat) (hi:i < n):V.Ends Tryz.prog false 0 0 (lb 4 p_pc) (sh_pc at8 r n ts (n:Int) i n ts n ps xb xn xd) (hp_pc at8 r n ts (n:Int) i n ts n ps xb xn xd) .normal (sh_pc at8 r n ts (n:Int) ((i+1:Nat):Int) n ts n ps xb xn xd) (hp_pc at8 r n ts (n:Int) ((i+1:Nat):Int) n ts n ps xb xn xd):=by
 have hp:=h.pl
 have hlim:=hp.ts.lim
 obtain ⟨a1,a2⟩:=okX_out (hp.ts.ok i hi)
 obtain ⟨⟨b1,b2⟩,_,_⟩:=okQ_out (hp.pts i hi)
 obtain ⟨c1,c2,c3⟩:=isRat_k b1
 obtain ⟨c4,c5,c6⟩:=isRat_k b2
 obtain ⟨g1,g2,g3,g4⟩:=at_own h hi
 have e:=can_eq (can_pt (hp.pts i hi) (hp.can i hi))
 have hr:=round_pc ag0 sq0 at8 r n ts n i n ts n ps xb xn xd
 simp only [Int.toNat_natCast,Nat.zero_add,rowV_vrow h.l1,rowV_vrow h.l2,okV_vrow,g1,g3,g4] at hr
 rw [dT (show (i:Int) < (n:Int) by omega),dT (show (0:Int)≤(i:Int) by omega),one_rat (show okT ts i=true from a1),a1,dT g2,c1,c2,c3,c4,c5,c6,i64T (z:=(i:Int)+1) (by omega)] at hr
 rw [e] at hr
 exact step_pc hr
theorem pc_go (h:PcOk n ts ps) (k:Nat):∀ i:Nat,n=i+k→LoopTo Tryz.prog (lb 4 p_pc) (sh_pc at8 r n ts (n:Int) i n ts n ps xb xn xd) (hp_pc at8 r n ts (n:Int) i n ts n ps xb xn xd) (.exit 0) (sh_pc at8 r n ts (n:Int) n n ts n ps xb xn xd) (hp_pc at8 r n ts (n:Int) n n ts n ps xb xn xd):=by
 induction k with
 | zero=>
  intro i hi
  have:i=n:=by omega
  subst this
  refine .last (step_pc ?_) (by intro h;cases h)
  rw [round_pc,dF (show ¬ ((i:Nat):Int) < (i:Int) by omega)]
  rfl
 | succ k ih=>
  intro i hi
  exact .more (pc_step h i (by omega)) (ih (i+1) (by omega))
end
def pre_pc (at8:Int) (r:Bool) (n1:Nat) (ts1:List Value) (n2 i:Int) (n:Nat) (ts:List Value) (m:Nat) (ps:List Value) (xb:Bool) (xn xd:BA):Prop:=n=n1∧ts=ts1∧n2=(n:Int)∧n=m∧i=0∧PcOk n ts ps
def post_pc (at8:Int) (r:Bool) (n1:Nat) (ts1:List Value) (n2 i:Int) (n:Nat) (ts:List Value) (m:Nat) (ps:List Value) (xb:Bool) (xn xd:BA) (ρ:Int):Prop:=True
theorem loop_pc (at8:Int) (r:Bool) (n1:Nat) (ts1:List Value) (n2 i:Int) (n:Nat) (ts:List Value) (m:Nat) (ps:List Value) (xb:Bool) (xn xd:BA) (h:pre_pc at8 r n1 ts1 n2 i n ts m ps xb xn xd):∃ ρ:Int,LoopTo Tryz.prog (lb 4 p_pc) (sh_pc at8 r n1 ts1 n2 i n ts m ps xb xn xd) (hp_pc at8 r n1 ts1 n2 i n ts m ps xb xn xd) (.exit 0) (sh_pc at8 r n1 ts1 n2 ρ n ts m ps xb xn xd) (hp_pc at8 r n1 ts1 n2 ρ n ts m ps xb xn xd)∧post_pc at8 r n1 ts1 n2 i n ts m ps xb xn xd ρ:=by
 obtain ⟨rfl,rfl,rfl,rfl,rfl,h⟩:=h
 exact ⟨_,pc_go h _ 0 (Nat.zero_add _).symm,trivial⟩
def told_pc (κ:Int→Bool→Nat→List Value→Int→Int→Nat→List Value→Nat→List Value→Bool→ByteArray→ByteArray→Bool) (φ:Int→Bool→Nat→List Value→Int→Int→Nat→List Value→Nat→List Value→Bool→ByteArray→ByteArray→Int) (T:List AV) (H:Hp):Option (Bool×Ex×List AV×Hp):=
 match lget T 1,lget T 3,lget T 5,lget T 6,lget T 28,lget T 29,lget T 30,H with
 | .val (.int .u8 at8), .ptr 0 0, .ptr 1 0, .val (.bool r), .lst false 24 n1 f_ts1, .val (.int .i64 n2), .val (.int .i64 i), [.row (.cells [.lst false 24 n f_ts, .lst false 38 m f_ps]) 30 .live, .row (.cells [.val (.bool xb), .val (.string xn), .val (.string xd)]) 24 .live]=>bif T.length==175 then some (okV 3 n1 f_ts1&&okV 3 n f_ts&&okV 6 m f_ps&&κ at8 r n1 (rowV 3 n1 f_ts1) n2 i n (rowV 3 n f_ts) m (rowV 6 m f_ps) xb xn xd, .exit 0,sh_pc at8 r n1 (rowV 3 n1 f_ts1) n2 ((φ at8 r n1 (rowV 3 n1 f_ts1) n2 i n (rowV 3 n f_ts) m (rowV 6 m f_ps) xb xn xd)) n (rowV 3 n f_ts) m (rowV 6 m f_ps) xb xn xd,hp_pc at8 r n1 (rowV 3 n1 f_ts1) n2 ((φ at8 r n1 (rowV 3 n1 f_ts1) n2 i n (rowV 3 n f_ts) m (rowV 6 m f_ps) xb xn xd)) n (rowV 3 n f_ts) m (rowV 6 m f_ps) xb xn xd) else none
 | _,_,_,_,_,_,_,_=>none
abbrev KT_pc:Type:=Int→Bool→Nat→List Value→Int→Int→Nat→List Value→Nat→List Value→Bool→ByteArray→ByteArray→Bool
abbrev FT_pc:Type:=Int→Bool→Nat→List Value→Int→Int→Nat→List Value→Nat→List Value→Bool→ByteArray→ByteArray→Int
def LL_pc (κ:KT_pc) (φ:FT_pc) (L:LTab):LTab:=addLn 0 4 p_pc [1,3,5,6,28,29,30] (told_pc κ φ) L
def phi_pc (at8:Int) (r:Bool) (n1:Nat) (ts1:List Value) (n2:Int) (i:Int) (n:Nat) (ts:List Value) (m:Nat) (ps:List Value) (xb:Bool) (xn:ByteArray) (xd:ByteArray):Int:=Classical.epsilon fun ρ=>LoopTo Tryz.prog (lb 4 p_pc) (sh_pc at8 r n1 ts1 n2 i n ts m ps xb xn xd) (hp_pc at8 r n1 ts1 n2 i n ts m ps xb xn xd) (.exit 0) (sh_pc at8 r n1 ts1 n2 (ρ) n ts m ps xb xn xd) (hp_pc at8 r n1 ts1 n2 (ρ) n ts m ps xb xn xd)∧post_pc at8 r n1 ts1 n2 i n ts m ps xb xn xd ρ
theorem phi_pc_spec (at8:Int) (r:Bool) (n1:Nat) (ts1:List Value) (n2:Int) (i:Int) (n:Nat) (ts:List Value) (m:Nat) (ps:List Value) (xb:Bool) (xn:ByteArray) (xd:ByteArray) (h:pre_pc at8 r n1 ts1 n2 i n ts m ps xb xn xd):LoopTo Tryz.prog (lb 4 p_pc) (sh_pc at8 r n1 ts1 n2 i n ts m ps xb xn xd) (hp_pc at8 r n1 ts1 n2 i n ts m ps xb xn xd) (.exit 0) (sh_pc at8 r n1 ts1 n2 ((phi_pc at8 r n1 ts1 n2 i n ts m ps xb xn xd)) n ts m ps xb xn xd) (hp_pc at8 r n1 ts1 n2 ((phi_pc at8 r n1 ts1 n2 i n ts m ps xb xn xd)) n ts m ps xb xn xd)∧post_pc at8 r n1 ts1 n2 i n ts m ps xb xn xd (phi_pc at8 r n1 ts1 n2 i n ts m ps xb xn xd):=Classical.epsilon_spec (loop_pc at8 r n1 ts1 n2 i n ts m ps xb xn xd h)
def cond_pc (at8:Int) (r:Bool) (n1:Nat) (ts1:List Value) (n2:Int) (i:Int) (n:Nat) (ts:List Value) (m:Nat) (ps:List Value) (xb:Bool) (xn:ByteArray) (xd:ByteArray):Bool:= @decide (pre_pc at8 r n1 ts1 n2 i n ts m ps xb xn xd) (Classical.propDecidable _)
theorem cond_pc_eq (at8:Int) (r:Bool) (n1:Nat) (ts1:List Value) (n2:Int) (i:Int) (n:Nat) (ts:List Value) (m:Nat) (ps:List Value) (xb:Bool) (xn:ByteArray) (xd:ByteArray) (h:pre_pc at8 r n1 ts1 n2 i n ts m ps xb xn xd):cond_pc at8 r n1 ts1 n2 i n ts m ps xb xn xd=true:= @decide_eq_true _ (Classical.propDecidable _) h
theorem told_pc_ok (T:List AV) (H:Hp) (e:Ex) (T1:List AV) (H1:Hp) (h:told_pc cond_pc phi_pc T H=some (true,e,T1,H1)):V.Ends Tryz.prog false 0 0 (.loop (lb 4 p_pc)) T H e T1 H1:=by
 unfold told_pc at h
 split at h
 ·rename_i at8 r n1 f_ts1 n2 i n f_ts m f_ps xb xn xd h1 h3 h5 h6 h28 h29 h30
  rw [Bool.cond_eq_ite] at h
  split at h
  ·rename_i hlen
   rw [beq_iff_eq] at hlen
   simp only [Option.some.injEq,Prod.mk.injEq,Bool.and_eq_true,decide_eq_true_eq] at h
   obtain ⟨⟨⟨⟨k1,k2⟩,k3⟩,k4⟩,rfl,rfl,rfl⟩:=h
   have kc:= @of_decide_eq_true _ (Classical.propDecidable _) k4
   refine Ends.pre (Ends.preH (phi_pc_spec at8 r n1 (rowV 3 n1 f_ts1) n2 i n (rowV 3 n f_ts) m (rowV 6 m f_ps) xb xn xd kc).1.ends (sameH.cons ⟨⟨rfl,fun _ _ _ _ _ hh=>rel_trj (by kernel_rfl) (by kernel_rfl) k2 k3 hh⟩,rfl,rfl⟩ (sameH.cons (sameB.refl _) sameH.nil))) (fun α B w D ys hr=>slots_rel hlen (fun p hp y hy=> ?_) hr)
   simp only [List.mem_cons,List.not_mem_nil,or_false] at hp
   rcases hp with rfl | rfl | rfl | rfl | rfl | rfl | rfl
   ·rw [h1] at hy;exact hy
   ·rw [h3] at hy;exact hy
   ·rw [h5] at hy;exact hy
   ·rw [h6] at hy;exact hy
   ·rw [h28] at hy;exact row_normV (by kernel_rfl) k1 hy
   ·rw [h29] at hy;exact hy
   ·rw [h30] at hy;exact hy
  ·cases h
 ·cases h
theorem LL_pc_ok {L:LTab} (h:LOk Tryz.prog L):LOk Tryz.prog (LL_pc cond_pc phi_pc L):=h.add2n body_pc told_pc_ok
end
end Go.Proofs.YtdnmkehncpfnnaaGreat.L
namespace Go.Proofs.YtdnmkehncpfnnaaGreat.L
open Go Go.V Go.RowKit Go.Proofs.YtdnmkehncpfnnaaGreat.Sp
open Go.Proofs (Tryz.prog)
noncomputable section
def CFn (G:Gg) (C:Cg) (K:Hg) (Z:Qg) (E:FuncId→TF):FuncId→TF:=addC 29 (tGT G) (addC 34 (tChk C) (addC 10 (tGreat K) (addC 42 (tQCheck Z) (addC 11 tAwS E))))
def CPc (G:Gg) (C:Cg) (K:Hg) (A:Ag) (V:Vg) (Z:Qg):FuncId→TF:=CFn G C K Z (addC 16 (gXR (tAt A Z)) (addC 17 (gRR (tQSub Z)) (addC 18 (gRR (tQMul Z)) (addC 19 (gRR (tQAdd Z)) (addC 20 (tQSign Z) (addC 22 (tQOf Z) (addC 21 (tQCompare Z) (addC 23 (gPP (tVAt K V Z)) noC))))))))
theorem places_tree (G:Gg) (C:Cg) (K:Hg) (A:Ag) (V:Vg) (Z:Qg) (κ:KT_pc) (φ:FT_pc) (n:Nat) (ts:List Value) (m:Nat) (ps:List Value) (at8:Int) (xb:Bool) (xn xd:BA):letI q_7:=(rowV (3:Nat) n (vrow (3:Nat) ts));letI q_6:=((↑n:Int) - (1:Int));letI q_23:=(q_7.getD ((at8.tmod q_6).toNat*(3:Nat)+(0:Nat)) undef);letI q_13:=(q_7.getD ((at8.tmod q_6).toNat*(3:Nat)+(1:Nat)) undef);letI q_14:=(q_7.getD ((at8.tmod q_6).toNat*(3:Nat)+(2:Nat)) undef);letI q_12:=(at8.tmod q_6+(1:Int));letI q_32:=(q_7.getD (q_12.toNat*(3:Nat)+(1:Nat)) undef);letI q_33:=(q_7.getD (q_12.toNat*(3:Nat)+(2:Nat)) undef);letI q_4:=(Z.qv (asB (q_7.getD (q_12.toNat*(3:Nat)+(0:Nat)) undef)) (asS q_32) (asS q_33) - Z.qv (asB q_23) (asS q_13) (asS q_14));letI q_22:=(Z.qv xb xn xd*Z.qv (Z.qn q_4) (Z.qs q_4) (Z.qd q_4));letI q_1:=(Z.qv (asB q_23) (asS q_13) (asS q_14)+Z.qv (Z.qn q_22) (Z.qs q_22) (Z.qd q_22));letI q_38:=(q_7.getD (q_6.toNat*(3:Nat)+(1:Nat)) undef);letI q_39:=(q_7.getD (q_6.toNat*(3:Nat)+(2:Nat)) undef);letI q_21:=(Z.qv xb xn xd*Z.qv xb xn xd);letI q_2:=(Z.qv (asB (q_7.getD (q_6.toNat*(3:Nat)+(0:Nat)) undef)) (asS q_38) (asS q_39)+Z.qv (Z.qn q_21) (Z.qs q_21) (Z.qd q_21));letI q_3:=(Z.qv (asB (q_7.getD (0:Nat) undef)) (asS (q_7.getD (1:Nat) undef)) (asS (q_7.getD (2:Nat) undef)) - Z.qv (Z.qn q_21) (Z.qs q_21) (Z.qd q_21));letI q_5:=(rowV (6:Nat) m (vrow (6:Nat) ps));letI q_26:=(q_5.getD ((at8.tmod q_6).toNat*(6:Nat)+(1:Nat)) undef);letI q_27:=(q_5.getD ((at8.tmod q_6).toNat*(6:Nat)+(2:Nat)) undef);letI q_34:=(q_5.getD (q_12.toNat*(6:Nat)+(1:Nat)) undef);letI q_35:=(q_5.getD (q_12.toNat*(6:Nat)+(2:Nat)) undef);letI q_8:=(V.at1 (Z.qv (asB (q_5.getD ((at8.tmod q_6).toNat*(6:Nat)+(0:Nat)) undef)) (asS q_26) (asS q_27)) (Z.qv (asB (q_5.getD (q_12.toNat*(6:Nat)+(0:Nat)) undef)) (asS q_34) (asS q_35)) (Z.qv xb xn xd));letI q_28:=(q_5.getD ((at8.tmod q_6).toNat*(6:Nat)+(4:Nat)) undef);letI q_29:=(q_5.getD ((at8.tmod q_6).toNat*(6:Nat)+(5:Nat)) undef);letI q_36:=(q_5.getD (q_12.toNat*(6:Nat)+(4:Nat)) undef);letI q_37:=(q_5.getD (q_12.toNat*(6:Nat)+(5:Nat)) undef);letI q_9:=(V.at1 (Z.qv (asB (q_5.getD ((at8.tmod q_6).toNat*(6:Nat)+(3:Nat)) undef)) (asS q_28) (asS q_29)) (Z.qv (asB (q_5.getD (q_12.toNat*(6:Nat)+(3:Nat)) undef)) (asS q_36) (asS q_37)) (Z.qv xb xn xd));letI q_10:=(rowV (3:Nat) n (vrow (3:Nat) q_7));letI q_11:=(rowV (6:Nat) m (vrow (6:Nat) q_5));letI q_24:=(A.ax n q_10 m q_11 (Z.qn q_2) (Z.qs q_2) (Z.qd q_2));letI q_15:=(strEq (Z.qs q_24) (asS (q_5.getD (q_6.toNat*(6:Nat)+(1:Nat)) undef))&&(strEq (Z.qd q_24) (asS (q_5.getD (q_6.toNat*(6:Nat)+(2:Nat)) undef))&&true));letI q_25:=(A.ay n q_10 m q_11 (Z.qn q_2) (Z.qs q_2) (Z.qd q_2));letI q_16:=(strEq (Z.qs q_25) (asS (q_5.getD (q_6.toNat*(6:Nat)+(4:Nat)) undef))&&(strEq (Z.qd q_25) (asS (q_5.getD (q_6.toNat*(6:Nat)+(5:Nat)) undef))&&true));letI q_17:=(A.ax n q_10 m q_11 (Z.qn q_3) (Z.qs q_3) (Z.qd q_3));letI q_18:=(A.ay n q_10 m q_11 (Z.qn q_3) (Z.qs q_3) (Z.qd q_3));letI q_19:=(A.ax n q_10 m q_11 (Z.qn q_1) (Z.qs q_1) (Z.qd q_1));letI q_20:=(A.ay n q_10 m q_11 (Z.qn q_1) (Z.qs q_1) (Z.qd q_1));letI q_30:=(strEq (Z.qs q_17) (asS (q_5.getD (1:Nat) undef))&&(strEq (Z.qd q_17) (asS (q_5.getD (2:Nat) undef))&&true));letI q_31:=(strEq (Z.qs q_18) (asS (q_5.getD (4:Nat) undef))&&(strEq (Z.qd q_18) (asS (q_5.getD (5:Nat) undef))&&true));letI q_40:=(q_5.getD (q_6.toNat*(6:Nat)+(0:Nat)) undef);letI q_41:=(q_5.getD (q_6.toNat*(6:Nat)+(3:Nat)) undef);letI q_42:=(Z.fr (1:Int) (1:Int));
  (callA Tryz.prog ⟨CPc G C K A V Z,Kall,LL_pc κ φ noL⟩ 10 10 4 [aTrj n ts m ps, .val (.int .u8 at8),w3 xb xn xd]=(bif okV (3:Nat) n (vrow (3:Nat) ts)&&okV (6:Nat) m (vrow (6:Nat) ps)&&G.go n q_7 m q_5 then (bif G.gt n q_7 m q_5 then some (.val (.bool true)) else (bif okV (3:Nat) n (vrow (3:Nat) ts)&&okV (6:Nat) m (vrow (6:Nat) ps)&&C.ko n q_7 m q_5 then (bif !decide (C.ck n q_7 m q_5=(0:Int)) then some (.val (.bool true)) else (bif K.gr xn xd then some (.val (.bool true)) else (bif Z.ok xn xd then (bif !decide (Z.ck xb xn xd=(0:Int)) then some (.val (.bool true)) else (bif okV (3:Nat) n (vrow (3:Nat) ts)&&okV (3:Nat) n (vrow (3:Nat) ts)&&okV (6:Nat) m (vrow (6:Nat) ps)&&κ at8 false n q_7 (↑n:Int) (0:Int) n q_7 m q_5 xb xn xd then (bif decide ((0:Int) < (↑n:Int)) then (bif Z.ok xn xd&&Z.ok xn xd then (bif isRat (q_7.getD (0:Nat) undef) (q_7.getD (1:Nat) undef) (q_7.getD (2:Nat) undef)&&true&&(Z.ok (asS (q_7.getD (1:Nat) undef)) (asS (q_7.getD (2:Nat) undef))&&Z.ok (Z.qs q_21) (Z.qd q_21)) then (bif okV (3:Nat) n (vrow (3:Nat) q_7)&&okV (6:Nat) m (vrow (6:Nat) q_5)&&A.ak n q_10 m q_11 (Z.qs q_3) (Z.qd q_3) then (bif inR IntKind.i64 q_6 then (bif decide ((0:Int)≤(↑n:Int) - (1:Int))&&decide ((↑n:Int) - (1:Int) < (↑n:Int)) then (bif Z.ok xn xd&&Z.ok xn xd then (bif isRat (q_7.getD (q_6.toNat*(3:Nat)+(0:Nat)) undef) q_38 q_39&&true&&(Z.ok (asS q_38) (asS q_39)&&Z.ok (Z.qs q_21) (Z.qd q_21)) then (bif okV (3:Nat) n (vrow (3:Nat) q_7)&&okV (6:Nat) m (vrow (6:Nat) q_5)&&A.ak n q_10 m q_11 (Z.qs q_2) (Z.qd q_2) then (bif !decide (A.ae n q_10 m q_11 (Z.qn q_3) (Z.qs q_3) (Z.qd q_3)=(0:Int)) then some (.val (.bool false)) else (bif !decide (A.ae n q_10 m q_11 (Z.qn q_2) (Z.qs q_2) (Z.qd q_2)=(0:Int)) then some (.val (.bool false)) else (bif decide ((0:Int) < (↑m:Int)) then (bif isB (q_5.getD (0:Nat) undef) then (bif isS (q_5.getD (1:Nat) undef) then (bif isS (q_5.getD (2:Nat) undef) then (bif isB (q_5.getD (3:Nat) undef) then (bif isS (q_5.getD (4:Nat) undef) then (bif isS (q_5.getD (5:Nat) undef) then (bif bif true then !(Z.qn q_17==asB (q_5.getD (0:Nat) undef)&&q_30&&(Z.qn q_18==asB (q_5.getD (3:Nat) undef)&&q_31&&true)) else Z.qn q_17==asB (q_5.getD (0:Nat) undef)&&q_30&&(Z.qn q_18==asB (q_5.getD (3:Nat) undef)&&q_31&&true) then some (.val (.bool false)) else (bif inR IntKind.i64 q_6 then (bif decide ((0:Int)≤(↑n:Int) - (1:Int))&&decide ((↑n:Int) - (1:Int) < (↑m:Int)) then (bif isB q_40 then (bif isS (q_5.getD (q_6.toNat*(6:Nat)+(1:Nat)) undef) then (bif isS (q_5.getD (q_6.toNat*(6:Nat)+(2:Nat)) undef) then (bif isB q_41 then (bif isS (q_5.getD (q_6.toNat*(6:Nat)+(4:Nat)) undef) then (bif isS (q_5.getD (q_6.toNat*(6:Nat)+(5:Nat)) undef) then (bif bif true then !(Z.qn q_24==asB q_40&&q_15&&(Z.qn q_25==asB q_41&&q_16&&true)) else Z.qn q_24==asB q_40&&q_15&&(Z.qn q_25==asB q_41&&q_16&&true) then some (.val (.bool false)) else (bif decide ((↑n:Int) < (2:Int)) then some (.val (.bool true)) else (bif Z.ok xn xd then (bif decide (Z.sq (Z.qv xb xn xd) < (0:Int)) then some (.val (.bool true)) else (bif Z.ok xn xd&&Z.ok (Z.qs q_42) (Z.qd q_42) then (bif decide ((0:Int) < Z.cq (Z.qv xb xn xd) (Z.qv (Z.qn q_42) (Z.qs q_42) (Z.qd q_42))) then some (.val (.bool true)) else (bif inR IntKind.i64 at8 then (bif inR IntKind.i64 q_6 then (bif decide ((↑n:Int) - (1:Int)=(0:Int)) then none else (bif decide ((0:Int)≤at8.tmod q_6)&&decide (at8.tmod q_6 < (↑n:Int)) then (bif inR IntKind.i64 q_12 then (bif decide ((0:Int)≤at8.tmod q_6+(1:Int))&&decide (at8.tmod q_6+(1:Int) < (↑n:Int)) then (bif decide ((0:Int)≤at8.tmod q_6)&&decide (at8.tmod q_6 < (↑n:Int)) then (bif isRat (q_7.getD (q_12.toNat*(3:Nat)+(0:Nat)) undef) q_32 q_33&&isRat q_23 q_13 q_14&&(Z.ok (asS q_32) (asS q_33)&&Z.ok (asS q_13) (asS q_14)) then (bif Z.ok xn xd&&Z.ok (Z.qs q_4) (Z.qd q_4) then (bif isRat q_23 q_13 q_14&&true&&(Z.ok (asS q_13) (asS q_14)&&Z.ok (Z.qs q_22) (Z.qd q_22)) then (bif okV (3:Nat) n (vrow (3:Nat) q_7)&&okV (6:Nat) m (vrow (6:Nat) q_5)&&A.ak n q_10 m q_11 (Z.qs q_1) (Z.qd q_1) then (bif decide (A.ae n q_10 m q_11 (Z.qn q_1) (Z.qs q_1) (Z.qd q_1)=(0:Int)) then (bif decide ((0:Int)≤at8.tmod q_6)&&decide (at8.tmod q_6 < (↑m:Int)) then (bif inR IntKind.i64 q_12 then (bif decide ((0:Int)≤at8.tmod q_6+(1:Int))&&decide (at8.tmod q_6+(1:Int) < (↑m:Int)) then (bif isRat (q_5.getD ((at8.tmod q_6).toNat*(6:Nat)+(0:Nat)) undef) q_26 q_27&&isRat (q_5.getD ((at8.tmod q_6).toNat*(6:Nat)+(3:Nat)) undef) q_28 q_29&&(isRat (q_5.getD (q_12.toNat*(6:Nat)+(0:Nat)) undef) q_34 q_35&&isRat (q_5.getD (q_12.toNat*(6:Nat)+(3:Nat)) undef) q_36 q_37)&&(K.ok (asS q_26) (asS q_27)&&K.ok (asS q_28) (asS q_29)&&K.ok (asS q_34) (asS q_35)&&K.ok (asS q_36) (asS q_37)&&V.okl xn xd) then (bif bif false then !(Z.qn q_19==Z.qn q_8&&(strEq (Z.qs q_19) (Z.qs q_8)&&(strEq (Z.qd q_19) (Z.qd q_8)&&true))&&(Z.qn q_20==Z.qn q_9&&(strEq (Z.qs q_20) (Z.qs q_9)&&(strEq (Z.qd q_20) (Z.qd q_9)&&true))&&true)) else Z.qn q_19==Z.qn q_8&&(strEq (Z.qs q_19) (Z.qs q_8)&&(strEq (Z.qd q_19) (Z.qd q_8)&&true))&&(Z.qn q_20==Z.qn q_9&&(strEq (Z.qs q_20) (Z.qs q_9)&&(strEq (Z.qd q_20) (Z.qd q_9)&&true))&&true) then some (.val (.bool true)) else some (.val (.bool false))) else none) else none) else none) else none) else some (.val (.bool false))) else none) else none) else none) else none) else none) else none) else none) else none)) else none) else none)) else none)) else none))) else none) else none) else none) else none) else none) else none) else none) else none)) else none) else none) else none) else none) else none) else none) else none))) else none) else none) else none) else none) else none) else none) else none) else none) else none) else none)) else none))) else none)) else none)):=by kernel_rfl
end
end Go.Proofs.YtdnmkehncpfnnaaGreat.L
namespace Go.Proofs.YtdnmkehncpfnnaaGreat.L
open Go Go.V Go.RowKit Go.Proofs.YtdnmkehncpfnnaaGreat.Sp
open Go.Proofs (Tryz.prog)
noncomputable section
theorem gr12 {n d:BA} (h:hg0.gr n d=false):hg0.ok n d=true:=by
 have h:(decide (12 < n.size) ||decide (12 < d.size))=false:=h
 rw [Bool.or_eq_false_iff,decide_eq_false_iff_not,decide_eq_false_iff_not] at h
 show (decide _&&decide _)=true
 rw [decide_eq_true (show n.size≤12 by omega),decide_eq_true (show d.size≤12 by omega)];rfl
theorem okm_12 {n d:BA} (h:hg0.ok n d=true):okm n d=true:=by
 obtain ⟨h1,h2⟩:=ok12_out h
 unfold okm
 rw [decide_eq_true (show n.size≤1000 by omega),decide_eq_true (show d.size≤1000 by omega)];rfl
theorem okm_rat {q:Rat} (h:szq q≤1000):okm (sq0.qs q) (sq0.qd q)=true:=by
 unfold szq at h
 have h1:=size_qs q
 have h2:=size_qd q
 unfold okm
 rw [decide_eq_true (show (sq0.qs q).size≤1000 by omega),decide_eq_true (show (sq0.qd q).size≤1000 by omega)];rfl
theorem ck_rat (q:Rat):sq0.ck (sq0.qn q) (sq0.qs q) (sq0.qd q)=0:=by
 show (bif (sq0.qn q==sq0.qn (sq0.qv (sq0.qn q) (sq0.qs q) (sq0.qd q)))&&strEq (sq0.qs q) (sq0.qs (sq0.qv (sq0.qn q) (sq0.qs q) (sq0.qd q)))&&strEq (sq0.qd q) (sq0.qd (sq0.qv (sq0.qn q) (sq0.qs q) (sq0.qd q))) then (0:Int) else 1)=0
 rw [qv_rat,beq_self_eq_true,strEq_self,strEq_self];rfl
structure Small (n:Nat) (ts:List Value) (m:Nat) (ps:List Value):Prop where
 ko:koN n ts m ps=true
 sz:∀ j,j < n→szq (qt ts j)≤12
 lim:n≤10∨1000 < n
 nx:n≤1005
theorem small_of {n:Nat} {ts:List Value} {m:Nat} {ps:List Value} (h1:okTs n ts=true) (h2:okpN m ps=true) (h:¬ gtN n ts m ps=true):Small n ts m ps:=by
 obtain ⟨hn,ht⟩:=okTs_out h1
 obtain ⟨hm,hp⟩:=okpN_out (show tg0.okp m ps=true from h2)
 unfold gtN at h
 rw [Bool.not_eq_true,Bool.or_eq_false_iff,Bool.or_eq_false_iff,Bool.or_eq_false_iff,Bool.and_eq_false_iff,decide_eq_false_iff_not,decide_eq_false_iff_not,decide_eq_false_iff_not] at h
 obtain ⟨⟨g1,g2,g3⟩,g4⟩:=h
 unfold gpN at g4
 rw [Bool.or_eq_false_iff] at g4
 have hx:∀ j,j < n→hg0.ok (asS (ts.getD (j*3+1) undef)) (asS (ts.getD (j*3+2) undef))=true:=fun j hj=>gr12 (none_lt (Bool.eq_false_iff.1 g1) hj)
 refine ⟨?_,fun j hj=>ok12_sz (hx j hj),by omega,by omega⟩
 unfold koN
 rw [Bool.and_eq_true,List.all_eq_true,List.all_eq_true]
 refine ⟨fun j hj=> ?_,fun j hj=> ?_⟩
 ·rw [List.mem_range] at hj
  unfold okX
  rw [ht j hj,okm_12 (hx j hj)];rfl
 ·rw [List.mem_range] at hj
  have h6:=none_lt (Bool.eq_false_iff.1 g4.1) hj
  unfold grP at h6
  rw [Bool.or_eq_false_iff] at h6
  unfold okQ
  rw [hp j hj,gr12 h6.1,gr12 h6.2];rfl
section
variable {n : Nat} {ts : List Value}
theorem srN_before (h:TsOk n ts) (hn:0 < n) {x:Rat} (hx:x≤qt ts 0):srN ts x n=0:=
 (srN_uniq (Nat.zero_le _) (fun k hk=>absurd hk (Nat.not_lt_zero k)) (fun _=>by grind)).symm
theorem srN_behind (h:TsOk n ts) (hn:0 < n) {x:Rat} (hx:qt ts (n - 1) < x):srN ts x n=n:=
 (srN_uniq (Nat.le_refl _) (fun k hk=>by have:=h.le (show k≤n - 1 by omega) (by omega);grind) (fun h=>absurd h (Nat.lt_irrefl _))).symm
theorem srN_mid (h:TsOk n ts) {k:Nat} (hk:k+1 < n) {x:Rat} (h1:qt ts k < x) (h2:x≤qt ts (k+1)):srN ts x n=k+1:=
 (srN_uniq (by omega) (fun j hj=>by have:=h.le (show j≤k by omega) (by omega);grind) (fun _=>by grind)).symm
theorem pl1_before (h:TsOk n ts) (hn:0 < n) {x:Rat} (hx:x≤qt ts 0) (c:Nat→Rat):pl1 n ts c x=c 0:=by
 unfold pl1
 rw [srN_before h hn hx,if_pos rfl]
theorem pl1_behind (h:TsOk n ts) (hn:0 < n) {x:Rat} (hx:qt ts (n - 1)≤x) (c:Nat→Rat):pl1 n ts c x=c (n - 1):=by
 by_cases he:qt ts (n - 1)=x
 ·rw [← he];exact pl1_own h (by omega) c
 ·unfold pl1
  rw [srN_behind h hn (by grind),if_neg (show ¬ n=0 by omega),if_pos rfl]
theorem pl1_mid (h:TsOk n ts) {k:Nat} (hk:k+1 < n) {x:Rat} (h1:qt ts k < x) (h2:x≤qt ts (k+1)) (c:Nat→Rat):pl1 n ts c x=at1N (c k) (c (k+1)) ((x - qt ts k) / (qt ts (k+1) - qt ts k)):=by
 unfold pl1
 rw [srN_mid h hk h1 h2,if_neg (show ¬ k+1=0 by omega),if_neg (show ¬ k+1=n by omega),Nat.add_sub_cancel]
theorem pl1_part (h:TsOk n ts) {k:Nat} (hk:k+1 < n) {p:Rat} (h0:0≤p) (h1:p≤1) (c:Nat→Rat):pl1 n ts c (qt ts k+p*(qt ts (k+1) - qt ts k))=at1N (c k) (c (k+1)) p:=by
 have hu:=h.up k hk
 have hd:0 < qt ts (k+1) - qt ts k:=by grind
 by_cases hp:p=0
 ·subst hp
  rw [show qt ts k+0*(qt ts (k+1) - qt ts k)=qt ts k by grind,pl1_own h (by omega) c]
  unfold at1N;grind
 ·have hp2:0 < p:=by grind
  have hm:=Rat.mul_pos hp2 hd
  have hm2:p*(qt ts (k+1) - qt ts k)≤1*(qt ts (k+1) - qt ts k):=Rat.mul_le_mul_of_nonneg_right h1 (Rat.le_of_lt hd)
  rw [pl1_mid h hk (by grind) (by grind) c]
  have:(qt ts k+p*(qt ts (k+1) - qt ts k) - qt ts k) / (qt ts (k+1) - qt ts k)=p:=by grind
  rw [this]
end
end
end Go.Proofs.YtdnmkehncpfnnaaGreat.L
namespace Go.Proofs.YtdnmkehncpfnnaaGreat.L
open Go Go.V Go.ChangeShapes Go.WideShapes Go.RowKit Go.Deep Go.Joins Go.Proofs.YtdnmkehncpfnnaaGreat.Sp
open Go.Proofs (Tryz.prog)
noncomputable section
section
variable {H : Type} {enc : TypeId × Value → H} {w w' : World}
theorem back_arg {t:TypeId} {v:Value} {d:DataW H} {ps:List MemPlace} (hr:Tryz.prog.readableRec t=true) (hrow:t < Tryz.prog.types.size) (h:DataW.Trod enc Tryz.prog w 0 (fun _=>true) true t v d ps) (hb:Below w.heap.size w w'):
  DataW.Trod enc Tryz.prog w' 0 (fun b=>decide (b < w.heap.size)) true t v d ps:=
 Below.trod (by kernel_rfl) hr hrow h hb (fun x hx=>by obtain ⟨n,hn⟩:=h;exact DataW.trod_lt n _ _ _ hn x hx)
theorem slice_rel {t e:TypeId} {fuel:Nat} {v:Value} {x:DataW H×List MemPlace} (ht:Tryz.prog.underlying t=some (.slice e)) (hc:0 < Tryz.prog.cellsOf e) (h:DataW.trod enc Tryz.prog w 0 (fun _=>true) true fuel t [v]=some x):
  ∃ (n:Nat) (f:Nat→Nat→Value),n≤9223372036854775807∧(AV.lst false e n (fun j q=> .val (f j q))).Rel Tryz.prog NoA (fun _=>False) w NoD v∧∀ j,j < n→∃ m y,DataW.trod enc Tryz.prog w 0 (fun _=>true) true m e ((List.range (Tryz.prog.cellsOf e)).map (f j))=some y:=by
 rcases open_slice ht h with ⟨h0,_⟩ | ⟨a,len,cap,m,n,D,Pl,h0,hb,hl,hm,hmm,_,hx⟩
 ·cases h0
  exact ⟨0,fun _ _=>undef,Nat.zero_le _, ⟨none,0,rfl,Nat.le_refl _,(fun h=>by cases h), .inl rfl⟩,fun j hj=>by omega⟩
 ·cases h0
  have hm2:m=cap:=by rw [hmm];rfl
  have hmx:cap≤9223372036854775807:=hm
  by_cases hl0:len=0
  ·subst hl0
   exact ⟨0,fun _ _=>undef,Nat.zero_le _, ⟨some a,_,rfl,hl,(fun h=>by cases h), .inl rfl⟩,fun j hj=>by omega⟩
  ·obtain ⟨cs,hcs⟩:=choose_lt (α:=List Value) (p:=fun i l=>w.cells? 0 (a.add (i*Tryz.prog.cellsOf e)) (Tryz.prog.cellsOf e)=some l∧DataW.trod enc Tryz.prog w 0 (fun _=>true) true n e l=some (D i,Pl i)) (n:=len) (fun i hi=>hx i (by omega))
   have hcell:∀ j,j < len→(cs j).length=Tryz.prog.cellsOf e∧∀ q,q < Tryz.prog.cellsOf e→w.cell? (a.add (j*Tryz.prog.cellsOf e+q))=some ((cs j).getD q undef):=fun j hj=>by
    obtain ⟨_,h2,h3⟩:=World.cells?_some (hcs j hj).1
    refine ⟨h2,fun q hq=> ?_⟩
    have:=h3 q hq
    rw [add_add] at this
    rw [this,List.getD_eq_getElem?_getD,List.getElem?_eq_getElem (show q < (cs j).length by omega)];rfl
   have h00:=(hcell 0 (by omega)).2 0 hc
   have hsp:a.spot=none:=by
    have:a.add (0*Tryz.prog.cellsOf e+0)=a:=by rw [Nat.zero_mul];rfl
    rw [this] at h00
    exact World.cell?_spot h00
   obtain ⟨b,o,spot⟩:=a
   have hsp:spot=none:=hsp
   subst hsp
   have hadd:∀ i,(⟨b,o,none⟩:Addr).add i= ⟨b,o+i,none⟩:=fun i=>by
    unfold Addr.add
    split
    ·rename_i h;subst h;rfl
    ·rfl
   rw [hadd] at h00
   have hheap:∃ c ty fr,w.heap[b]? =some (.cells c ty fr):=by
    unfold World.cell? at h00
    simp only at h00
    split at h00
    ·rename_i c ty fr hh;exact ⟨c,ty,fr,hh⟩
    ·cases h00
   obtain ⟨c,ty,fr,hh⟩:=hheap
   have hget:∀ i y,w.cell? ⟨b,i,none⟩=some y→c[i]? =some y:=fun i y h=>by
    unfold World.cell? at h
    simp only [hh] at h
    exact h
   have hrel:(AV.lst false e len (fun j q=> .val ((cs j).getD q undef))).Rel Tryz.prog NoA (fun _=>False) w NoD (.slice (some ⟨b,o,none⟩) len cap):=by
    refine ⟨some ⟨b,o,none⟩,cap,rfl,hl,(fun h=>by cases h), .inr ⟨b,o,c,ty,fr,rfl,(fun h=>h),hh,fun j k hj hk=> ⟨(cs j).getD k undef, ?_,rfl⟩⟩⟩
    have:=(hcell j hj).2 k hk
    rw [hadd] at this
    rw [Nat.add_assoc]
    exact hget _ _ this
   refine ⟨len,fun j q=>(cs j).getD q undef,by omega,hrel,fun j hj=> ⟨n,(D j,Pl j), ?_⟩⟩
   have e1:(List.range (Tryz.prog.cellsOf e)).map (fun q=>(cs j).getD q undef)=cs j:=by
    have hl2:=(hcell j hj).1
    apply List.ext_getElem?
    intro i
    by_cases hi:i < Tryz.prog.cellsOf e
    ·rw [List.getElem?_map,List.getElem?_range hi,List.getElem?_eq_getElem (show i < (cs j).length by omega),Option.map_some,List.getD_eq_getElem?_getD,List.getElem?_eq_getElem (show i < (cs j).length by omega)];rfl
    ·rw [List.getElem?_eq_none (by simp;omega),List.getElem?_eq_none (by omega)]
   rw [e1]
   exact (hcs j hj).2
theorem cells_rat {fuel:Nat} {a b c:Value} {x:DataW H×List MemPlace} (h:DataW.trod enc Tryz.prog w 0 (fun _=>true) true fuel 24 [a,b,c]=some x):isRat a b c=true:=by
 obtain ⟨y0,y1,y2,n,_,_,h0,h1,h2⟩:=trod_struct3 (Tryz.underlying24) h
 have e0:Tryz.prog.cellsOf 4=1:=by kernel_rfl
 have e1:Tryz.prog.cellsOf 9=1:=by kernel_rfl
 simp only [e0,e1] at h0 h1 h2
 obtain ⟨b1,q1,_⟩:=DataW.trod_bool (show Tryz.prog.underlying _=some .bool from by kernel_rfl) h0
 obtain ⟨s1,q2,_⟩:=DataW.trod_string (show Tryz.prog.underlying _=some .string from by kernel_rfl) h1
 obtain ⟨s2,q3,_⟩:=DataW.trod_string (show Tryz.prog.underlying _=some .string from by kernel_rfl) h2
 cases q1;cases q2;cases q3
 rfl
theorem cells_pt {fuel:Nat} {a b c d e f:Value} {x:DataW H×List MemPlace} (h:DataW.trod enc Tryz.prog w 0 (fun _=>true) true fuel 38 [a,b,c,d,e,f]=some x):isRat a b c=true∧isRat d e f=true:=by
 obtain ⟨y0,y1,n,_,_,h0,h1⟩:=trod_struct2 (Tryz.underlying38) h
 have e0:Tryz.prog.cellsOf 24=3:=by kernel_rfl
 simp only [e0] at h0 h1
 exact ⟨cells_rat h0,cells_rat h1⟩
theorem row6 {l:List Value} (n:Nat) (f:Nat→Nat→Value) {j q:Nat} (sz:Nat) (hj:j < n) (hq:q < sz):(rowV sz n (fun j q=> .val (f j q))).getD (j*sz+q) undef=f j q:=by
 have h:=rowV_at (sz:=sz) (m:=n) (f:=fun j q=> .val (f j q)) (List.all_eq_true.2 fun i _=>rfl) hj hq
 exact (AV.val.inj h).symm
theorem arg_pts0 {fuel:Nat} {v:Value} {x:DataW H×List MemPlace} (h:DataW.trod enc Tryz.prog w 0 (fun _=>true) true fuel 22 [v]=some x):
  ∃ (n:Nat) (ps:List Value),ps.length=n*6∧okpN n ps=true∧(AV.lst false 38 n (vrow 6 ps)).Rel Tryz.prog NoA (fun _=>False) w NoD v:=by
 have ec:Tryz.prog.cellsOf 38=6:=by kernel_rfl
 obtain ⟨n,f,hn,hr,hx⟩:=slice_rel (e:=38) (by kernel_rfl) (by rw [ec];decide) h
 refine ⟨n,rowV 6 n (fun j q=> .val (f j q)),rowV_len _ _ _, ?_,row_normV (by kernel_rfl) (List.all_eq_true.2 fun i _=>rfl) hr⟩
 unfold okpN
 rw [Bool.and_eq_true,decide_eq_true_eq,List.all_eq_true]
 refine ⟨hn,fun j hj=> ?_⟩
 rw [List.mem_range] at hj
 obtain ⟨m,y,hy⟩:=hx j hj
 rw [ec] at hy
 obtain ⟨k1,k2⟩:=cells_pt (show DataW.trod enc Tryz.prog w 0 (fun _=>true) true m 38 [f j 0,f j 1,f j 2,f j 3,f j 4,f j 5]=some y from hy)
 unfold okP
 rw [row6 (l:= []) n f 6 hj (by decide),row6 (l:= []) n f 6 hj (by decide),row6 (l:= []) n f 6 hj (by decide),row6 (l:= []) n f 6 hj (by decide),row6 (l:= []) n f 6 hj (by decide),row6 (l:= []) n f 6 hj (by decide),k1,k2];rfl
theorem arg_rats0 {fuel:Nat} {v:Value} {x:DataW H×List MemPlace} (h:DataW.trod enc Tryz.prog w 0 (fun _=>true) true fuel 28 [v]=some x):
  ∃ (n:Nat) (ts:List Value),ts.length=n*3∧okTs n ts=true∧(AV.lst false 24 n (vrow 3 ts)).Rel Tryz.prog NoA (fun _=>False) w NoD v:=by
 have ec:Tryz.prog.cellsOf 24=3:=by kernel_rfl
 obtain ⟨n,f,hn,hr,hx⟩:=slice_rel (e:=24) (by kernel_rfl) (by rw [ec];decide) h
 refine ⟨n,rowV 3 n (fun j q=> .val (f j q)),rowV_len _ _ _, ?_,row_normV (by kernel_rfl) (List.all_eq_true.2 fun i _=>rfl) hr⟩
 unfold okTs
 rw [Bool.and_eq_true,decide_eq_true_eq,List.all_eq_true]
 refine ⟨hn,fun j hj=> ?_⟩
 rw [List.mem_range] at hj
 obtain ⟨m,y,hy⟩:=hx j hj
 rw [ec] at hy
 have k1:=cells_rat (show DataW.trod enc Tryz.prog w 0 (fun _=>true) true m 24 [f j 0,f j 1,f j 2]=some y from hy)
 unfold okT
 rw [row6 (l:= []) n f 3 hj (by decide),row6 (l:= []) n f 3 hj (by decide),row6 (l:= []) n f 3 hj (by decide),k1]
theorem arg_trj {cs:Array Value} {d:DataW H} {p:List MemPlace} (h:DataW.Trod enc Tryz.prog w 0 (fun _=>true) true 30 (.agg cs) d p):
  ∃ (n:Nat) (ts:List Value) (m:Nat) (ps:List Value),ts.length=n*3∧okTs n ts=true∧ps.length=m*6∧okpN m ps=true∧(AV.agg [.lst false 24 n (vrow 3 ts), .lst false 38 m (vrow 6 ps)]).Rel Tryz.prog NoA (fun _=>False) w NoD (.agg cs):=by
 obtain ⟨k,hk⟩:=h
 have hk:DataW.trod enc Tryz.prog w 0 (fun _=>true) true k 30 cs.toList=some (d,p):=hk
 obtain ⟨y0,y1,n,_,hl,h0,h1⟩:=trod_struct2 (Tryz.underlying30) hk
 have ec:Tryz.prog.cellsOf 30=2:=by kernel_rfl
 have e0:Tryz.prog.cellsOf 28=1:=by kernel_rfl
 have e1:Tryz.prog.cellsOf 22=1:=by kernel_rfl
 rw [ec] at hl
 obtain ⟨l⟩:=cs
 have hl2:∃ a b,l= [a,b]:=by
  cases l with
  | nil=>cases hl
  | cons a l=>cases l with
   | nil=>cases hl
   | cons b l=>cases l with
    | nil=>exact ⟨a,b,rfl⟩
    | cons c l=>exact absurd hl (by simp)
 obtain ⟨a,b,rfl⟩:=hl2
 simp only [e0,e1] at h0 h1
 obtain ⟨n1,ts,q1,q2,q3⟩:=arg_rats0 h0
 obtain ⟨m1,ps,r1,r2,r3⟩:=arg_pts0 h1
 exact ⟨n1,ts,m1,ps,q1,q2,r1,r2,_,rfl,a,_,rfl,q3,b,_,rfl,r3,rfl⟩
end
end
end Go.Proofs.YtdnmkehncpfnnaaGreat.L
namespace Go.Proofs.YtdnmkehncpfnnaaGreat.L
open Go Go.V Go.RowKit Go.Proofs.YtdnmkehncpfnnaaGreat.Sp
open Go.Proofs (Tryz.prog)
noncomputable section
theorem CPc_ok:Meets Tryz.prog (CPc gg0 cg0 hg0 ag0 vg0 sq0):=(((((((((((((meets_none _).add eVAt.gPP).add eQCompare).add eQOf).add eQSign).add eQAdd.gRR).add eQMul.gRR).add eQSub.gRR).add (entry_gXR eAt)).add eAwakeS).add eQCheck).add eGreat).add eRChk).add eGT
theorem qt0_eq (ts:List Value):sq0.qv (asB (ts.getD 0 undef)) (asS (ts.getD 1 undef)) (asS (ts.getD 2 undef))=qt ts 0:=rfl
theorem at_rat {n:Nat} {ts ps:List Value} (hk:koN n ts n ps=true) (hc:ckN n ts n ps=0) {q:Rat} (hq:szq q≤1000):
  ag0.ak n ts n ps (sq0.qs q) (sq0.qd q)=true∧ag0.ae n ts n ps (sq0.qn q) (sq0.qs q) (sq0.qd q)=0∧ag0.ax n ts n ps (sq0.qn q) (sq0.qs q) (sq0.qd q)=pl1 n ts (px ps) q∧ag0.ay n ts n ps (sq0.qn q) (sq0.qs q) (sq0.qd q)=pl1 n ts (py ps) q:=by
 have he:atE n ts n ps (sq0.qn q) (sq0.qs q) (sq0.qd q)=0:=by
  unfold atE
  rw [if_pos ⟨hc,ck_rat q⟩]
 refine ⟨?_,he, ?_, ?_⟩
 ·show (koN n ts n ps&&okm _ _)=true
  rw [hk,okm_rat hq];rfl
 ·refine (if_pos he).trans ?_
  rw [qv_rat]
 ·refine (if_pos he).trans ?_
  rw [qv_rat]
theorem sq_lt0 {q:Rat} :sq0.sq q < 0↔q < 0:=by
 show cqn q 0 < 0↔_
 unfold cqn
 split
 ·rename_i h;exact ⟨fun _=>h,fun _=>by omega⟩
 ·rename_i h;exact ⟨fun h2=>by split at h2 <;> omega,fun h2=>absurd h2 h⟩
theorem cq_gt {a b:Rat} :0 < sq0.cq a b↔b < a:=by
 show 0 < cqn a b↔_
 unfold cqn
 split
 ·rename_i h;exact ⟨fun h2=>by omega,fun h2=>by grind⟩
 ·split
  ·rename_i h;exact ⟨fun _=>h,fun _=>by omega⟩
  ·rename_i h;exact ⟨fun h2=>by omega,fun h2=>absurd h2 h⟩
theorem pair_eq2 (p q:Rat):(sq0.qn p==sq0.qn p&&(strEq (sq0.qs p) (sq0.qs p)&&(strEq (sq0.qd p) (sq0.qd p)&&true))&&(sq0.qn q==sq0.qn q&&(strEq (sq0.qs q) (sq0.qs q)&&(strEq (sq0.qd q) (sq0.qd q)&&true))&&true))=true:=by
 simp only [beq_self_eq_true,strEq_self,Bool.and_self]
theorem places_true (n:Nat) (ts:List Value) (m:Nat) (ps:List Value) (l1:ts.length=n*3) (o1:okTs n ts=true) (l2:ps.length=m*6) (o2:okpN m ps=true) (a:Nat) (ha:a < 256) (xb:Bool) (xn xd:BA):
  callA Tryz.prog ⟨CPc gg0 cg0 hg0 ag0 vg0 sq0,Kall,LL_pc cond_pc phi_pc noL⟩ 10 10 4 [aTrj n ts m ps, .val (.int .u8 (a:Int)),w3 xb xn xd]=some (.val (.bool true)):=by
 rw [places_tree]
 simp only [rowV_vrow l1,rowV_vrow l2,okV_vrow,show gg0.go n ts m ps=true from by show (okTs n ts&&okpN m ps)=true;rw [o1,o2];rfl]
 by_cases hg:gtN n ts m ps=true
 ·rw [show gg0.gt n ts m ps=true from hg];rfl
 rw [show gg0.gt n ts m ps=false from Bool.eq_false_iff.2 hg]
 have hS:=small_of o1 o2 hg
 rw [show cg0.ko n ts m ps=true from hS.ko]
 by_cases hc:ckN n ts m ps=0
 case neg=>rw [dF (show ¬ cg0.ck n ts m ps=0 from hc)];rfl
 rw [dT (show cg0.ck n ts m ps=0 from hc)]
 by_cases hgr:hg0.gr xn xd=true
 ·rw [hgr];rfl
 rw [Bool.eq_false_iff.2 hgr]
 have h12:=gr12 (Bool.eq_false_iff.2 hgr)
 rw [ok12_q h12]
 by_cases hck:sq0.ck xb xn xd=0
 case neg=>rw [dF hck];rfl
 rw [dT hck]
 obtain ⟨rfl,hpos,hlim,_⟩:=ckN_ok hc
 have hpl:=plOk_of hS.ko hc
 have ht:=hpl.ts
 have hq:pre_pc a false n ts n 0 n ts n ps xb xn xd:= ⟨rfl,rfl,rfl,rfl,rfl,l1,l2,hS.ko,hc⟩
 rw [cond_pc_eq _ _ _ _ _ _ _ _ _ _ _ _ _ hq]
 have sx:szq (sq0.qv xb xn xd)≤12:=ok12_sz h12
 have okl:vg0.okl xn xd=true:=by
  obtain ⟨q1,q2⟩:=ok12_out h12
  show (decide _&&decide _)=true
  rw [decide_eq_true (show xn.size≤100000 by omega),decide_eq_true (show xd.size≤100000 by omega)];rfl
 simp only [qt0_eq,qt_eq,px_eq,py_eq,qv_rat,frg]
 generalize sq0.qv xb xn xd=x at*
 have s2:=szq_mul x x
 have z0:=hS.sz 0 hpos
 have zn:=hS.sz (n - 1) (by omega)
 have s3:=szq_sub (qt ts 0) (x*x)
 have s4:=szq_add (qt ts (n - 1)) (x*x)
 obtain ⟨a0,a0'⟩:=okX_out (ht.ok 0 hpos)
 obtain ⟨an,an'⟩:=okX_out (ht.ok (n - 1) (by omega))
 obtain ⟨f1,f2,f3,f4⟩:=at_rat hS.ko hc (q:=qt ts 0 - x*x) (by omega)
 obtain ⟨g1,g2,g3,g4⟩:=at_rat hS.ko hc (q:=qt ts (n - 1)+x*x) (by omega)
 have xx:=sq_nn x
 rw [pl1_before ht hpos (by grind)] at f3 f4
 rw [pl1_behind ht hpos (by grind)] at g3 g4
 have e1:(n:Int) - 1=((n - 1:Nat):Int):=by omega
 have q1:=ok_rat (q:=x*x) (by omega)
 have a0:isRat (ts.getD 0 undef) (ts.getD 1 undef) (ts.getD 2 undef)=true:=a0
 have a0':sq0.ok (asS (ts.getD 1 undef)) (asS (ts.getD 2 undef))=true:=okm_q a0'
 obtain ⟨⟨b1,b2⟩,_,_⟩:=okQ_out (hpl.pts 0 hpos)
 obtain ⟨c1,c2,c3⟩:=isRat_k b1
 obtain ⟨c4,c5,c6⟩:=isRat_k b2
 have ce0:=can_eq (can_pt (hpl.pts 0 hpos) (hpl.can 0 hpos))
 obtain ⟨⟨d1,d2⟩,_,_⟩:=okQ_out (hpl.pts (n - 1) (by omega))
 obtain ⟨u1,u2,u3⟩:=isRat_k d1
 obtain ⟨u4,u5,u6⟩:=isRat_k d2
 have cen:=can_eq (can_pt (hpl.pts (n - 1) (by omega)) (hpl.can (n - 1) (by omega)))
 have c1:isB (ps.getD 0 undef)=true:=c1
 have c2:isS (ps.getD 1 undef)=true:=c2
 have c3:isS (ps.getD 2 undef)=true:=c3
 have c4:isB (ps.getD 3 undef)=true:=c4
 have c5:isS (ps.getD 4 undef)=true:=c5
 have c6:isS (ps.getD 5 undef)=true:=c6
 simp only [e1,Int.toNat_natCast,qt_eq,f1,f3,f4,g1,g3,g4,a0,a0',an,okm_q an',q1]
 rw [dT f2,dT g2,dT (show (0:Int) < (n:Int) by omega),i64T (z:=((n - 1:Nat):Int)) (by omega),dT (show (0:Int)≤((n - 1:Nat):Int) by omega),dT (show ((n - 1:Nat):Int) < (n:Int) by omega),c1,c2,c3,c4,c5,c6,u1,u2,u3,u4,u5,u6,cen]
 simp only [Nat.zero_mul,Nat.zero_add] at ce0
 rw [ce0]
 have s1:szq ((1:Int):Rat)≤2:=sz_g (by decide)
 rw [ok_rat (q:=((1:Int):Rat)) (by omega)]
 by_cases hn:n < 2
 ·rw [dT (show (n:Int) < 2 by omega)];rfl
 rw [dF (show ¬ (n:Int) < 2 by omega)]
 by_cases hs:x < 0
 ·rw [dT (sq_lt0.2 hs)];rfl
 rw [dF (fun h=>hs (sq_lt0.1 h))]
 by_cases h1:((1:Int):Rat) < x
 ·rw [dT (cq_gt.2 h1)];rfl
 rw [dF (fun h=>h1 (cq_gt.1 h))]
 have h1':x≤1:=by have:((1:Int):Rat)=1:=rfl;grind
 have ek:(a:Int).tmod ((n - 1:Nat):Int)=((a % (n - 1):Nat):Int):=(Int.ofNat_tmod a (n - 1)).symm
 have hk:a % (n - 1) < n - 1:=Nat.mod_lt _ (by omega)
 rw [ek,i64T (z:=(a:Int)) (by omega),dF (show ¬ ((n - 1:Nat):Int)=0 by omega)]
 generalize a % (n - 1)=k at*
 have e2:(k:Int)+1=((k+1:Nat):Int):=by omega
 obtain ⟨⟨m1,m2⟩,m3,m4⟩:=okQ_out (hpl.pts k (by omega))
 obtain ⟨⟨p1,p2⟩,p3,p4⟩:=okQ_out (hpl.pts (k+1) (by omega))
 obtain ⟨r1,r2⟩:=okX_out (ht.ok k (by omega))
 obtain ⟨t1,t2⟩:=okX_out (ht.ok (k+1) (by omega))
 have y0:=hS.sz k (by omega)
 have y1:=hS.sz (k+1) (by omega)
 have y2:=szq_sub (qt ts (k+1)) (qt ts k)
 have y3:=szq_mul x (qt ts (k+1) - qt ts k)
 have y4:=szq_add (qt ts k) (x*(qt ts (k+1) - qt ts k))
 obtain ⟨v1,v2,v3,v4⟩:=at_rat hS.ko hc (q:=qt ts k+x*(qt ts (k+1) - qt ts k)) (by omega)
 rw [pl1_part ht (by omega) (by grind) h1'] at v3 v4
 have v3:ag0.ax n ts n ps (sq0.qn (qt ts k+x*(qt ts (k+1) - qt ts k))) (sq0.qs (qt ts k+x*(qt ts (k+1) - qt ts k))) (sq0.qd (qt ts k+x*(qt ts (k+1) - qt ts k)))=vg0.at1 (px ps k) (px ps (k+1)) x:=v3
 have v4:ag0.ay n ts n ps (sq0.qn (qt ts k+x*(qt ts (k+1) - qt ts k))) (sq0.qs (qt ts k+x*(qt ts (k+1) - qt ts k))) (sq0.qd (qt ts k+x*(qt ts (k+1) - qt ts k)))=vg0.at1 (py ps k) (py ps (k+1)) x:=v4
 simp only [e2,Int.toNat_natCast,qt_eq,px_eq,py_eq,v1,v3,v4,m1,m2,m3,m4,p1,p2,p3,p4,r1,okm_q r2,t1,okm_q t2,okl,ok_rat (q:=qt ts (k+1) - qt ts k) (by omega),ok_rat (q:=x*(qt ts (k+1) - qt ts k)) (by omega),pair_eq2]
 rw [dT v2,i64T (z:=((k+1:Nat):Int)) (by omega),dT (show (0:Int)≤(k:Int) by omega),dT (show (k:Int) < (n:Int) by omega),dT (show (0:Int)≤((k+1:Nat):Int) by omega),dT (show ((k+1:Nat):Int) < (n:Int) by omega)]
 rfl
theorem u8_lit {z:Int} (h:(Lit.int .u8 z).wf=true):∃ a:Nat,a < 256∧z=(a:Int):=by
 have h2:0≤z∧z < 256:=by
  simp [Lit.wf,IntKind.min,IntKind.max,IntKind.signed,IntKind.bits] at h
  omega
 exact ⟨z.toNat,by omega,by omega⟩
theorem places_walk (n:Nat) (ts:List Value) (m:Nat) (ps:List Value) (l1:ts.length=n*3) (o1:okTs n ts=true) (l2:ps.length=m*6) (o2:okpN m ps=true) (z:Int) (hz:(Lit.int .u8 z).wf=true) (xb:Bool) (xn xd:BA) (W:World) (v:Value) (hv:(aTrj n ts m ps).Rel Tryz.prog NoA (fun _=>False) W NoD v):Calls Tryz.prog 4 #[v, .int .u8 z, .agg #[.bool xb, .string xn, .string xd]] W fun e w'=>e= .returned (.bool true)∧Below W.heap.size W w':=by
 obtain ⟨a,ha,rfl⟩:=u8_lit hz
 exact law_walk CPc_ok (LL_pc_ok LOk.none).ok (by kernel_rfl) (places_true n ts m ps l1 o1 l2 o2 a ha xb xn xd) W ⟨_,_,rfl,hv,_,_,rfl,rfl,_,_,rfl,arg_rat _ _ xb xn xd,rfl⟩
end
end Go.Proofs.YtdnmkehncpfnnaaGreat.L
