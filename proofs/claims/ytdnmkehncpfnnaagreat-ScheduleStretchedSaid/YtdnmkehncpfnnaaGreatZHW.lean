import Derived.Test.YtdnmkehncpfnnaaGreatZHZ
set_option linter.unusedVariables false
set_option linter.unusedSimpArgs false
namespace Go.Proofs.YtdnmkehncpfnnaaGreat.L
open Go Go.V Go.RowKit Go.Proofs.YtdnmkehncpfnnaaGreat.Sp
open Go.Proofs (Tryz.prog)
noncomputable section
def CAt (G:Cg) (V:Vg) (Z:Qg):FuncId→TF:=addC 28 (tChk G) (addC 42 (tQCheck Z) (addC 54 (tPlace V Z) noC))
theorem at_call (G:Cg) (V:Vg) (Z:Qg) (n:Nat) (ts:List Value) (m:Nat) (ps:List Value) (xb:Bool) (xn xd:BA):letI q_1:=(rowV (3:Nat) n (vrow (3:Nat) ts));letI q_2:=(rowV (6:Nat) m (vrow (6:Nat) ps));
  (callA Tryz.prog ⟨CAt G V Z,Kall,noL⟩ 10 10 16 [aTrj n ts m ps,w3 xb xn xd]=(bif okV (3:Nat) n (vrow (3:Nat) ts)&&okV (6:Nat) m (vrow (6:Nat) ps)&&G.ko n q_1 m q_2 then (bif !decide (G.ck n q_1 m q_2=(0:Int)) then some (.tup [(.agg [(.val (.bool false)),(.val (.string (ByteArray.mk #[]))),(.val (.string (ByteArray.mk #[]))),(.val (.bool false)),(.val (.string (ByteArray.mk #[]))),(.val (.string (ByteArray.mk #[])))]),(.val (.int .i64 1))]) else (bif Z.ok xn xd then (bif !decide (Z.ck xb xn xd=(0:Int)) then some (.tup [(.agg [(.val (.bool false)),(.val (.string (ByteArray.mk #[]))),(.val (.string (ByteArray.mk #[]))),(.val (.bool false)),(.val (.string (ByteArray.mk #[]))),(.val (.string (ByteArray.mk #[])))]),(.val (.int .i64 1))]) else (bif okV (3:Nat) n (vrow (3:Nat) ts)&&okV (6:Nat) m (vrow (6:Nat) ps)&&V.pk n q_1 m q_2 xn xd then some (.tup [(.agg [(.val (.bool (Z.qn (V.plx n q_1 q_2 (Z.qv xb xn xd))))),(.val (.string (Z.qs (V.plx n q_1 q_2 (Z.qv xb xn xd))))),(.val (.string (Z.qd (V.plx n q_1 q_2 (Z.qv xb xn xd))))),(.val (.bool (Z.qn (V.ply n q_1 q_2 (Z.qv xb xn xd))))),(.val (.string (Z.qs (V.ply n q_1 q_2 (Z.qv xb xn xd))))),(.val (.string (Z.qd (V.ply n q_1 q_2 (Z.qv xb xn xd)))))]),(.val (.int .i64 0))]) else none)) else none)) else none)):=by kernel_rfl
structure Ag where
 ak:Nat→List Value→Nat→List Value→BA→BA→Bool
 ae:Nat→List Value→Nat→List Value→Bool→BA→BA→Int
 ax:Nat→List Value→Nat→List Value→Bool→BA→BA→Rat
 ay:Nat→List Value→Nat→List Value→Bool→BA→BA→Rat
def atE (n:Nat) (ts:List Value) (m:Nat) (ps:List Value) (xb:Bool) (xn xd:BA):Int:=if ckN n ts m ps=0∧sq0.ck xb xn xd=0 then 0 else 1
def ag0:Ag where
 ak n ts m ps xn xd:=koN n ts m ps&&okm xn xd
 ae:=atE
 ax n ts m ps xb xn xd:=if atE n ts m ps xb xn xd=0 then pl1 n ts (px ps) (sq0.qv xb xn xd) else 0
 ay n ts m ps xb xn xd:=if atE n ts m ps xb xn xd=0 then pl1 n ts (py ps) (sq0.qv xb xn xd) else 0
def tAt (A:Ag) (Z:Qg):TF:=fun args=>match args with
 | [.agg [.lst _ 24 n f, .lst _ 38 m g], .agg [.val (.bool xb), .val (.string xn), .val (.string xd)]]=>some (okV 3 n f&&okV 6 m g&&A.ak n (rowV 3 n f) m (rowV 6 m g) xn xd, .tup [Z.pair (A.ax n (rowV 3 n f) m (rowV 6 m g) xb xn xd) (A.ay n (rowV 3 n f) m (rowV 6 m g) xb xn xd), .val (.int .i64 (A.ae n (rowV 3 n f) m (rowV 6 m g) xb xn xd))])
 | _=>none
theorem ckN_ok {n:Nat} {ts:List Value} {m:Nat} {ps:List Value} (h:ckN n ts m ps=0):n=m∧0 < n∧n≤1000∧∀ j,j < n→ckE ts ps j=0:=by
 unfold ckN at h
 split at h
 ·cases h
 ·rename_i h1
  split at h
  ·cases h
  ·split at h
   ·cases h
   ·exact ⟨Classical.not_not.1 h1,by omega,by omega,ckL_ok h⟩
theorem plOk_of {n:Nat} {ts:List Value} {m:Nat} {ps:List Value} (ho:koN n ts m ps=true) (h:ckN n ts m ps=0):PlOk n ts m ps:=by
 obtain ⟨rfl,h1,h2,h3⟩:=ckN_ok h
 obtain ⟨hx,hp⟩:=koN_out ho
 refine ⟨rfl,h1, ⟨h2,hx,fun j hj=> ?_⟩,hp,fun j hj=>(ckE_go (h3 j hj)).2.1⟩
 have:=(ckE_go (h3 (j+1) hj)).2.2 (by omega)
 rw [cq_ge,Nat.add_sub_cancel] at this
 exact Classical.not_not.1 this
theorem CAt_ok:Meets Tryz.prog (CAt cg0 vg0 sq0):=(((meets_none _).add ePlace).add eQCheck).add eChk
theorem pair_zero:sq0.pair 0 0= .agg [.val (.bool false), .val (.string (ByteArray.mk #[])), .val (.string (ByteArray.mk #[])), .val (.bool false), .val (.string (ByteArray.mk #[])), .val (.string (ByteArray.mk #[]))]:=by
 unfold Qg.pair
 rw [qn_zero,qs_zero,qd_zero]
theorem at_val (n:Nat) (ts:List Value) (m:Nat) (ps:List Value) (xb:Bool) (xn xd:BA) (l1:ts.length=n*3) (l2:ps.length=m*6) (hk:ag0.ak n ts m ps xn xd=true):
  callA Tryz.prog ⟨CAt cg0 vg0 sq0,Kall,noL⟩ 10 10 16 [aTrj n ts m ps,w3 xb xn xd]=some (.tup [sq0.pair (ag0.ax n ts m ps xb xn xd) (ag0.ay n ts m ps xb xn xd), .val (.int .i64 (ag0.ae n ts m ps xb xn xd))]):=by
 have hk:(koN n ts m ps&&okm xn xd)=true:=hk
 rw [Bool.and_eq_true] at hk
 obtain ⟨k1,k2⟩:=hk
 rw [at_call,rowV_vrow l1,rowV_vrow l2,okV_vrow,okV_vrow,show cg0.ko n ts m ps=true from k1,okm_q k2]
 by_cases h:atE n ts m ps xb xn xd=0
 ·have hax:ag0.ax n ts m ps xb xn xd=pl1 n ts (px ps) (sq0.qv xb xn xd):=if_pos h
  have hay:ag0.ay n ts m ps xb xn xd=pl1 n ts (py ps) (sq0.qv xb xn xd):=if_pos h
  have hae:ag0.ae n ts m ps xb xn xd=0:=h
  rw [hax,hay,hae]
  unfold atE at h
  split at h
  ·rename_i hc
   have hpk:vg0.pk n ts m ps xn xd=true:=by
    show pkN n ts m ps xn xd=true
    unfold pkN
    rw [@decide_eq_true _ (Classical.propDecidable _) (plOk_of k1 hc.1),k2];rfl
   rw [dT (show cg0.ck n ts m ps=0 from hc.1),dT hc.2,hpk];rfl
  ·cases h
 ·have hax:ag0.ax n ts m ps xb xn xd=0:=if_neg h
  have hay:ag0.ay n ts m ps xb xn xd=0:=if_neg h
  have hae:ag0.ae n ts m ps xb xn xd=1:=by
   show atE n ts m ps xb xn xd=1
   unfold atE at h ⊢
   split <;> rename_i hc
   ·rw [if_pos hc] at h;exact absurd rfl h
   ·rfl
  rw [hax,hay,hae,pair_zero]
  by_cases h1:ckN n ts m ps=0
  ·by_cases h2:sq0.ck xb xn xd=0
   ·exact absurd (by unfold atE;rw [if_pos ⟨h1,h2⟩]) h
   ·rw [dT (show cg0.ck n ts m ps=0 from h1),dF h2];rfl
  ·rw [dF (show ¬ cg0.ck n ts m ps=0 from h1)];rfl
theorem eAt:Entry Tryz.prog 16 (tAt ag0 sq0):=by
 refine entry_at (by kernel_rfl) (fun args r h=> ?_)
 unfold tAt at h
 split at h
 ·rename_i fl n f fl2 m g xb xn xd
  simp only [Option.some.injEq,Prod.mk.injEq,Bool.and_eq_true] at h
  obtain ⟨⟨⟨h1,h2⟩,h3⟩,rfl⟩:=h
  exact ⟨⟨CAt cg0 vg0 sq0,Kall,noL⟩,10,10,_,_,CAt_ok,loops_none,at_val n _ m _ xb xn xd (rowV_len 3 n f) (rowV_len 6 m g) h3,ImpL.cons (imp_trj h1 h2) (ImpL.refl _),Imp.refl _⟩
 ·cases h
end
end Go.Proofs.YtdnmkehncpfnnaaGreat.L
namespace Go.Proofs.YtdnmkehncpfnnaaGreat.L
open Go Go.V Go.RowKit Go.Proofs.YtdnmkehncpfnnaaGreat.Sp
open Go.Proofs (Tryz.prog)
noncomputable section
def grT (ts:List Value) (j:Nat):Bool:=hg0.gr (asS (ts.getD (j*3+1) undef)) (asS (ts.getD (j*3+2) undef))
abbrev p_gt:List Bool:= [false,true,false,true]
def sh_gt (r:Bool) (i:Int) (n:Nat) (ts:List Value) (m:Nat) (ps:List Value):List AV:=slots 38 [(1, .ptr 0 0),(2, .val (.bool r)),(3, .val (.int .i64 i))]
def hp_gt (r:Bool) (i:Int) (n:Nat) (ts:List Value) (m:Nat) (ps:List Value):Hp:= [.row (.cells [.lst false 24 n (vrow 3 ts), .lst false 38 m (vrow 6 ps)]) 30 .live]
theorem body_gt:subC Tryz.prog 29 p_gt=some (.loop (lb 29 p_gt)):=by kernel_rfl
theorem code_gt:subC Tryz.prog 29 (false :: p_gt)=some (lb 29 p_gt):=by kernel_rfl
theorem round_gt (K:Hg) (r:Bool) (i:Int) (n:Nat) (ts:List Value) (m:Nat) (ps:List Value):roundA Tryz.prog (EGp K) 29 [1,2,3] (lb 29 p_gt) (false :: p_gt) (sh_gt r i n ts m ps) (hp_gt r i n ts m ps)=
  (bif decide (i < (↑n:Int)) then (bif decide ((0:Int)≤i)&&decide (i < (↑n:Int)) then (bif isRat (ts.getD (i.toNat*(3:Nat)+(0:Nat)) undef) (ts.getD (i.toNat*(3:Nat)+(1:Nat)) undef) (ts.getD (i.toNat*(3:Nat)+(2:Nat)) undef)&&true then (bif K.gr (asS (ts.getD (i.toNat*(3:Nat)+(1:Nat)) undef)) (asS (ts.getD (i.toNat*(3:Nat)+(2:Nat)) undef)) then some (.ret,slots 38 [(1,(.ptr 0 0)),(2,(.val (.bool true))),(3,(.val (.int .i64 i)))], [(.row (.cells [(.lst false 24 n (vrow (3:Nat) ts)),(.lst false 38 m (vrow (6:Nat) ps))]) 30 .live)]) else (bif inR IntKind.i64 (i+(1:Int)) then some (.normal,slots 38 [(1,(.ptr 0 0)),(2,(.val (.bool r))),(3,(.val (.int .i64 (i+(1:Int)))))], [(.row (.cells [(.lst false 24 n (vrow (3:Nat) ts)),(.lst false 38 m (vrow (6:Nat) ps))]) 30 .live)]) else none)) else none) else none) else some ((.exit 0),slots 38 [(1,(.ptr 0 0)),(2,(.val (.bool r))),(3,(.val (.int .i64 i)))], [(.row (.cells [(.lst false 24 n (vrow (3:Nat) ts)),(.lst false 38 m (vrow (6:Nat) ps))]) 30 .live)])):=by kernel_rfl
theorem step_gt {r:Bool} {i:Int} {n:Nat} {ts:List Value} {m:Nat} {ps:List Value} {e:Ex} {T:List AV} {H:Hp} (h:roundA Tryz.prog (EGp hg0) 29 [1,2,3] (lb 29 p_gt) (false :: p_gt) (sh_gt r i n ts m ps) (hp_gt r i n ts m ps)=some (e,T,H)):V.Ends Tryz.prog false 0 0 (lb 29 p_gt) (sh_gt r i n ts m ps) (hp_gt r i n ts m ps) e T H:=
 round_ends ((meets_none _).add eGreat.gR) loops_none mixed code_gt h
section
variable {r : Bool} {n m : Nat} {ts ps : List Value}
theorem gt_step (i:Nat) (hi:i < n) (hn:n≤9223372036854775807) (h:okT ts i=true) (hg:grT ts i=false):V.Ends Tryz.prog false 0 0 (lb 29 p_gt) (sh_gt r i n ts m ps) (hp_gt r i n ts m ps) .normal (sh_gt r ((i+1:Nat):Int) n ts m ps) (hp_gt r ((i+1:Nat):Int) n ts m ps):=by
 have hr:=round_gt hg0 r i n ts m ps
 unfold okT at h
 unfold grT at hg
 simp only [Int.toNat_natCast] at hr
 rw [dT (show (i:Int) < (n:Int) by omega),dT (show (0:Int)≤(i:Int) by omega),h,hg,i64T (z:=(i:Int)+1) (by omega)] at hr
 exact step_gt hr
theorem gt_stop (i:Nat) (hi:i < n) (h:okT ts i=true) (hg:grT ts i=true):V.Ends Tryz.prog false 0 0 (lb 29 p_gt) (sh_gt r i n ts m ps) (hp_gt r i n ts m ps) .ret (sh_gt true i n ts m ps) (hp_gt true i n ts m ps):=by
 have hr:=round_gt hg0 r i n ts m ps
 unfold okT at h
 unfold grT at hg
 simp only [Int.toNat_natCast] at hr
 rw [dT (show (i:Int) < (n:Int) by omega),dT (show (0:Int)≤(i:Int) by omega),h,hg] at hr
 exact step_gt hr
theorem gt_go (hn:n≤9223372036854775807) (h:∀ j,j < n→okT ts j=true∧grT ts j=false) (k:Nat):∀ i:Nat,n=i+k→LoopTo Tryz.prog (lb 29 p_gt) (sh_gt r i n ts m ps) (hp_gt r i n ts m ps) (.exit 0) (sh_gt r n n ts m ps) (hp_gt r n n ts m ps):=by
 induction k with
 | zero=>
  intro i hi
  have:i=n:=by omega
  subst this
  refine .last (step_gt ?_) (by intro h;cases h)
  rw [round_gt,dF (show ¬ ((i:Nat):Int) < (i:Int) by omega)]
  rfl
 | succ k ih=>
  intro i hi
  obtain ⟨h1,h2⟩:=h i (by omega)
  exact .more (gt_step i (by omega) hn h1 h2) (ih (i+1) (by omega))
theorem gu_go (hn:n≤9223372036854775807) (h:∀ j,j < n→okT ts j=true) (q:Nat) (hq:q < n) (hg:∀ j,j < q→grT ts j=false) (hb:grT ts q=true) (k:Nat):∀ i:Nat,q=i+k→LoopTo Tryz.prog (lb 29 p_gt) (sh_gt r i n ts m ps) (hp_gt r i n ts m ps) .ret (sh_gt true q n ts m ps) (hp_gt true q n ts m ps):=by
 induction k with
 | zero=>
  intro i hi
  have:i=q:=by omega
  subst this
  exact .last (gt_stop i hq (h i hq) hb) (by intro h;cases h)
 | succ k ih=>
  intro i hi
  exact .more (gt_step i (by omega) hn (h i (by omega)) (hg i (by omega))) (ih (i+1) (by omega))
end
def pre_gt (r:Bool) (i:Int) (n:Nat) (ts:List Value) (m:Nat) (ps:List Value):Prop:=i=0∧n≤9223372036854775807∧∀ j,j < n→okT ts j=true∧grT ts j=false
def post_gt (r:Bool) (i:Int) (n:Nat) (ts:List Value) (m:Nat) (ps:List Value) (ρ:Int):Prop:=True
theorem loop_gt (r:Bool) (i:Int) (n:Nat) (ts:List Value) (m:Nat) (ps:List Value) (h:pre_gt r i n ts m ps):∃ ρ:Int,LoopTo Tryz.prog (lb 29 p_gt) (sh_gt r i n ts m ps) (hp_gt r i n ts m ps) (.exit 0) (sh_gt r ρ n ts m ps) (hp_gt r ρ n ts m ps)∧post_gt r i n ts m ps ρ:=by
 obtain ⟨rfl,hn,h⟩:=h
 exact ⟨_,gt_go hn h _ 0 (Nat.zero_add _).symm,trivial⟩
def told_gt (κ:Bool→Int→Nat→List Value→Nat→List Value→Bool) (φ:Bool→Int→Nat→List Value→Nat→List Value→Int) (T:List AV) (H:Hp):Option (Bool×Ex×List AV×Hp):=
 match lget T 1,lget T 2,lget T 3,H with
 | .ptr 0 0, .val (.bool r), .val (.int .i64 i), [.row (.cells [.lst false 24 n f_ts, .lst false 38 m f_ps]) 30 .live]=>bif T.length==38 then some (okV 3 n f_ts&&okV 6 m f_ps&&κ r i n (rowV 3 n f_ts) m (rowV 6 m f_ps), .exit 0,sh_gt r ((φ r i n (rowV 3 n f_ts) m (rowV 6 m f_ps))) n (rowV 3 n f_ts) m (rowV 6 m f_ps),hp_gt r ((φ r i n (rowV 3 n f_ts) m (rowV 6 m f_ps))) n (rowV 3 n f_ts) m (rowV 6 m f_ps)) else none
 | _,_,_,_=>none
abbrev KT_gt:Type:=Bool→Int→Nat→List Value→Nat→List Value→Bool
abbrev FT_gt:Type:=Bool→Int→Nat→List Value→Nat→List Value→Int
def LL_gt (κ:KT_gt) (φ:FT_gt) (L:LTab):LTab:=addLn 0 29 p_gt [1,2,3] (told_gt κ φ) L
def phi_gt (r:Bool) (i:Int) (n:Nat) (ts:List Value) (m:Nat) (ps:List Value):Int:=Classical.epsilon fun ρ=>LoopTo Tryz.prog (lb 29 p_gt) (sh_gt r i n ts m ps) (hp_gt r i n ts m ps) (.exit 0) (sh_gt r (ρ) n ts m ps) (hp_gt r (ρ) n ts m ps)∧post_gt r i n ts m ps ρ
theorem phi_gt_spec (r:Bool) (i:Int) (n:Nat) (ts:List Value) (m:Nat) (ps:List Value) (h:pre_gt r i n ts m ps):LoopTo Tryz.prog (lb 29 p_gt) (sh_gt r i n ts m ps) (hp_gt r i n ts m ps) (.exit 0) (sh_gt r ((phi_gt r i n ts m ps)) n ts m ps) (hp_gt r ((phi_gt r i n ts m ps)) n ts m ps)∧post_gt r i n ts m ps (phi_gt r i n ts m ps):=Classical.epsilon_spec (loop_gt r i n ts m ps h)
def cond_gt (r:Bool) (i:Int) (n:Nat) (ts:List Value) (m:Nat) (ps:List Value):Bool:= @decide (pre_gt r i n ts m ps) (Classical.propDecidable _)
theorem cond_gt_eq (r:Bool) (i:Int) (n:Nat) (ts:List Value) (m:Nat) (ps:List Value) (h:pre_gt r i n ts m ps):cond_gt r i n ts m ps=true:= @decide_eq_true _ (Classical.propDecidable _) h
theorem told_gt_ok (T:List AV) (H:Hp) (e:Ex) (T1:List AV) (H1:Hp) (h:told_gt cond_gt phi_gt T H=some (true,e,T1,H1)):V.Ends Tryz.prog false 0 0 (.loop (lb 29 p_gt)) T H e T1 H1:=by
 unfold told_gt at h
 split at h
 ·rename_i r i n f_ts m f_ps h1 h2 h3
  rw [Bool.cond_eq_ite] at h
  split at h
  ·rename_i hlen
   rw [beq_iff_eq] at hlen
   simp only [Option.some.injEq,Prod.mk.injEq,Bool.and_eq_true,decide_eq_true_eq] at h
   obtain ⟨⟨⟨k1,k2⟩,k3⟩,rfl,rfl,rfl⟩:=h
   have kc:= @of_decide_eq_true _ (Classical.propDecidable _) k3
   refine Ends.pre (Ends.preH (phi_gt_spec r i n (rowV 3 n f_ts) m (rowV 6 m f_ps) kc).1.ends (sameH.cons ⟨⟨rfl,fun _ _ _ _ _ hh=>rel_trj (by kernel_rfl) (by kernel_rfl) k1 k2 hh⟩,rfl,rfl⟩ sameH.nil)) (fun α B w D ys hr=>slots_rel hlen (fun p hp y hy=> ?_) hr)
   simp only [List.mem_cons,List.not_mem_nil,or_false] at hp
   rcases hp with rfl | rfl | rfl
   ·rw [h1] at hy;exact hy
   ·rw [h2] at hy;exact hy
   ·rw [h3] at hy;exact hy
  ·cases h
 ·cases h
theorem LL_gt_ok {L:LTab} (h:LOk Tryz.prog L):LOk Tryz.prog (LL_gt cond_gt phi_gt L):=h.add2n body_gt told_gt_ok
abbrev p_gu:List Bool:= [false,true,false,true]
def sh_gu (r:Bool) (i:Int) (n:Nat) (ts:List Value) (m:Nat) (ps:List Value):List AV:=slots 38 [(1, .ptr 0 0),(2, .val (.bool r)),(3, .val (.int .i64 i))]
def hp_gu (r:Bool) (i:Int) (n:Nat) (ts:List Value) (m:Nat) (ps:List Value):Hp:= [.row (.cells [.lst false 24 n (vrow 3 ts), .lst false 38 m (vrow 6 ps)]) 30 .live]
theorem body_gu:subC Tryz.prog 29 p_gu=some (.loop (lb 29 p_gu)):=by kernel_rfl
def pre_gu (r:Bool) (i:Int) (n:Nat) (ts:List Value) (m:Nat) (ps:List Value):Prop:=i=0∧n≤9223372036854775807∧(∀ j,j < n→okT ts j=true)∧∃ q,q < n∧(∀ j,j < q→grT ts j=false)∧grT ts q=true
def post_gu (r:Bool) (i:Int) (n:Nat) (ts:List Value) (m:Nat) (ps:List Value) (ρ:Bool×Int):Prop:=ρ.1=true
theorem loop_gu (r:Bool) (i:Int) (n:Nat) (ts:List Value) (m:Nat) (ps:List Value) (h:pre_gu r i n ts m ps):∃ ρ:Bool×Int,LoopTo Tryz.prog (lb 29 p_gu) (sh_gu r i n ts m ps) (hp_gu r i n ts m ps) .ret (sh_gu ρ.1 ρ.2 n ts m ps) (hp_gu ρ.1 ρ.2 n ts m ps)∧post_gu r i n ts m ps ρ:=by
 obtain ⟨rfl,hn,h,q,hq,hg,hb⟩:=h
 exact ⟨(true,(q:Int)),gu_go hn h q hq hg hb q 0 (by omega),rfl⟩
def told_gu (κ:Bool→Int→Nat→List Value→Nat→List Value→Bool) (φ:Bool→Int→Nat→List Value→Nat→List Value→Bool×Int) (T:List AV) (H:Hp):Option (Bool×Ex×List AV×Hp):=
 match lget T 1,lget T 2,lget T 3,H with
 | .ptr 0 0, .val (.bool r), .val (.int .i64 i), [.row (.cells [.lst false 24 n f_ts, .lst false 38 m f_ps]) 30 .live]=>bif T.length==38 then some (okV 3 n f_ts&&okV 6 m f_ps&&κ r i n (rowV 3 n f_ts) m (rowV 6 m f_ps), .ret,sh_gu ((φ r i n (rowV 3 n f_ts) m (rowV 6 m f_ps)).1) ((φ r i n (rowV 3 n f_ts) m (rowV 6 m f_ps)).2) n (rowV 3 n f_ts) m (rowV 6 m f_ps),hp_gu ((φ r i n (rowV 3 n f_ts) m (rowV 6 m f_ps)).1) ((φ r i n (rowV 3 n f_ts) m (rowV 6 m f_ps)).2) n (rowV 3 n f_ts) m (rowV 6 m f_ps)) else none
 | _,_,_,_=>none
abbrev KT_gu:Type:=Bool→Int→Nat→List Value→Nat→List Value→Bool
abbrev FT_gu:Type:=Bool→Int→Nat→List Value→Nat→List Value→Bool×Int
def LL_gu (κ:KT_gu) (φ:FT_gu) (L:LTab):LTab:=addLn 0 29 p_gu [1,2,3] (told_gu κ φ) L
def phi_gu (r:Bool) (i:Int) (n:Nat) (ts:List Value) (m:Nat) (ps:List Value):Bool×Int:=Classical.epsilon fun ρ=>LoopTo Tryz.prog (lb 29 p_gu) (sh_gu r i n ts m ps) (hp_gu r i n ts m ps) (.ret) (sh_gu (ρ.1) (ρ.2) n ts m ps) (hp_gu (ρ.1) (ρ.2) n ts m ps)∧post_gu r i n ts m ps ρ
theorem phi_gu_spec (r:Bool) (i:Int) (n:Nat) (ts:List Value) (m:Nat) (ps:List Value) (h:pre_gu r i n ts m ps):LoopTo Tryz.prog (lb 29 p_gu) (sh_gu r i n ts m ps) (hp_gu r i n ts m ps) (.ret) (sh_gu ((phi_gu r i n ts m ps).1) ((phi_gu r i n ts m ps).2) n ts m ps) (hp_gu ((phi_gu r i n ts m ps).1) ((phi_gu r i n ts m ps).2) n ts m ps)∧post_gu r i n ts m ps (phi_gu r i n ts m ps):=Classical.epsilon_spec (loop_gu r i n ts m ps h)
def cond_gu (r:Bool) (i:Int) (n:Nat) (ts:List Value) (m:Nat) (ps:List Value):Bool:= @decide (pre_gu r i n ts m ps) (Classical.propDecidable _)
theorem cond_gu_eq (r:Bool) (i:Int) (n:Nat) (ts:List Value) (m:Nat) (ps:List Value) (h:pre_gu r i n ts m ps):cond_gu r i n ts m ps=true:= @decide_eq_true _ (Classical.propDecidable _) h
theorem told_gu_ok (T:List AV) (H:Hp) (e:Ex) (T1:List AV) (H1:Hp) (h:told_gu cond_gu phi_gu T H=some (true,e,T1,H1)):V.Ends Tryz.prog false 0 0 (.loop (lb 29 p_gu)) T H e T1 H1:=by
 unfold told_gu at h
 split at h
 ·rename_i r i n f_ts m f_ps h1 h2 h3
  rw [Bool.cond_eq_ite] at h
  split at h
  ·rename_i hlen
   rw [beq_iff_eq] at hlen
   simp only [Option.some.injEq,Prod.mk.injEq,Bool.and_eq_true,decide_eq_true_eq] at h
   obtain ⟨⟨⟨k1,k2⟩,k3⟩,rfl,rfl,rfl⟩:=h
   have kc:= @of_decide_eq_true _ (Classical.propDecidable _) k3
   refine Ends.pre (Ends.preH (phi_gu_spec r i n (rowV 3 n f_ts) m (rowV 6 m f_ps) kc).1.ends (sameH.cons ⟨⟨rfl,fun _ _ _ _ _ hh=>rel_trj (by kernel_rfl) (by kernel_rfl) k1 k2 hh⟩,rfl,rfl⟩ sameH.nil)) (fun α B w D ys hr=>slots_rel hlen (fun p hp y hy=> ?_) hr)
   simp only [List.mem_cons,List.not_mem_nil,or_false] at hp
   rcases hp with rfl | rfl | rfl
   ·rw [h1] at hy;exact hy
   ·rw [h2] at hy;exact hy
   ·rw [h3] at hy;exact hy
  ·cases h
 ·cases h
theorem LL_gu_ok {L:LTab} (h:LOk Tryz.prog L):LOk Tryz.prog (LL_gu cond_gu phi_gu L):=h.add2n body_gu told_gu_ok
structure Gg where
 gt:Nat→List Value→Nat→List Value→Bool
 go:Nat→List Value→Nat→List Value→Bool
def gtN (n:Nat) (ts:List Value) (m:Nat) (ps:List Value):Bool:=(List.range n).any (grT ts) ||(decide (10 < n)&&decide (n≤1000) ||decide (1005 < n)) ||gpN m ps
def gg0:Gg where
 gt:=gtN
 go n ts m ps:=okTs n ts&&okpN m ps
def tGT (G:Gg):TF:=fun args=>match args with
 | [.agg [.lst _ 24 n f, .lst _ 38 m g]]=>some (okV 3 n f&&okV 6 m g&&G.go n (rowV 3 n f) m (rowV 6 m g), .val (.bool (G.gt n (rowV 3 n f) m (rowV 6 m g))))
 | _=>none
def CGt (T:Tg):FuncId→TF:=addC 9 (tGP T) noC
theorem gt_call (T:Tg) (κ:KT_gt) (φ:FT_gt) (n:Nat) (ts:List Value) (m:Nat) (ps:List Value):callA Tryz.prog ⟨CGt T,Kall,LL_gt κ φ noL⟩ 10 10 29 [.agg [.lst false 24 n (vrow 3 ts), .lst false 38 m (vrow 6 ps)]]=
  (bif okV (3:Nat) n (vrow (3:Nat) ts)&&okV (6:Nat) m (vrow (6:Nat) ps)&&κ false (0:Int) n (rowV (3:Nat) n (vrow (3:Nat) ts)) m (rowV (6:Nat) m (vrow (6:Nat) ps)) then (bif decide ((10:Int) < (↑n:Int)) then (bif decide ((↑n:Int)≤(1000:Int)) then some (.val (.bool true)) else (bif decide ((1005:Int) < (↑n:Int)) then some (.val (.bool true)) else (bif okV (6:Nat) m (vrow (6:Nat) (rowV (6:Nat) m (vrow (6:Nat) ps)))&&T.okp m (rowV (6:Nat) m (vrow (6:Nat) (rowV (6:Nat) m (vrow (6:Nat) ps)))) then some (.val (.bool (T.gp m (rowV (6:Nat) m (vrow (6:Nat) (rowV (6:Nat) m (vrow (6:Nat) ps))))))) else none))) else (bif decide ((1005:Int) < (↑n:Int)) then some (.val (.bool true)) else (bif okV (6:Nat) m (vrow (6:Nat) (rowV (6:Nat) m (vrow (6:Nat) ps)))&&T.okp m (rowV (6:Nat) m (vrow (6:Nat) (rowV (6:Nat) m (vrow (6:Nat) ps)))) then some (.val (.bool (T.gp m (rowV (6:Nat) m (vrow (6:Nat) (rowV (6:Nat) m (vrow (6:Nat) ps))))))) else none))) else none):=by kernel_rfl
theorem gu_call (T:Tg) (κ:KT_gu) (φ:FT_gu) (n:Nat) (ts:List Value) (m:Nat) (ps:List Value):callA Tryz.prog ⟨CGt T,Kall,LL_gu κ φ noL⟩ 10 10 29 [.agg [.lst false 24 n (vrow 3 ts), .lst false 38 m (vrow 6 ps)]]=
  (bif okV (3:Nat) n (vrow (3:Nat) ts)&&okV (6:Nat) m (vrow (6:Nat) ps)&&κ false (0:Int) n (rowV (3:Nat) n (vrow (3:Nat) ts)) m (rowV (6:Nat) m (vrow (6:Nat) ps)) then some (.val (.bool ((φ false (0:Int) n (rowV (3:Nat) n (vrow (3:Nat) ts)) m (rowV (6:Nat) m (vrow (6:Nat) ps))).fst))) else none):=by kernel_rfl
theorem CGt_ok:Meets Tryz.prog (CGt tg0):=(meets_none _).add eGP
theorem eGT:Entry Tryz.prog 29 (tGT gg0):=by
 refine entry_at (by kernel_rfl) (fun args r h=> ?_)
 unfold tGT at h
 split at h
 ·rename_i fl n f fl2 m g
  simp only [Option.some.injEq,Prod.mk.injEq,Bool.and_eq_true] at h
  obtain ⟨⟨⟨h1,h2⟩,h3⟩,rfl⟩:=h
  have hI:ImpL [.agg [.lst fl 24 n f, .lst fl2 38 m g]] [.agg [.lst false 24 n (vrow 3 (rowV 3 n f)), .lst false 38 m (vrow 6 (rowV 6 m g))]]:=
   ImpL.cons (Imp.agg (ImpL.cons (Imp.row (by kernel_rfl) h1) (ImpL.cons (Imp.row (by kernel_rfl) h2) (ImpL.refl _)))) (ImpL.refl _)
  have l1:=rowV_len 3 n f
  have l2:=rowV_len 6 m g
  generalize rowV 3 n f=ts at*
  generalize rowV 6 m g=ps at*
  have h3:(okTs n ts&&okpN m ps)=true:=h3
  rw [Bool.and_eq_true] at h3
  obtain ⟨k1,k2⟩:=h3
  obtain ⟨hn,ht⟩:=okTs_out k1
  by_cases hg:(List.range n).any (grT ts)=true
  ·have hq:pre_gu false 0 n ts m ps:= ⟨rfl,hn,ht,first_of n hg⟩
   refine ⟨⟨CGt tg0,Kall,LL_gu cond_gu phi_gu noL⟩,10,10,_,_,CGt_ok,(LL_gu_ok LOk.none).ok, ?_,hI,Imp.refl _⟩
   have e:gg0.gt n ts m ps=true:=by show gtN n ts m ps=true;unfold gtN;rw [hg];rfl
   rw [gu_call,okV_vrow,okV_vrow,rowV_vrow l1,rowV_vrow l2,cond_gu_eq _ _ _ _ _ _ hq,e,show (phi_gu false 0 n ts m ps).fst=true from (phi_gu_spec _ _ _ _ _ _ hq).2];rfl
  ·have hq:pre_gt false 0 n ts m ps:= ⟨rfl,hn,fun j hj=> ⟨ht j hj,none_lt hg hj⟩⟩
   refine ⟨⟨CGt tg0,Kall,LL_gt cond_gt phi_gt noL⟩,10,10,_,_,CGt_ok,(LL_gt_ok LOk.none).ok, ?_,hI,Imp.refl _⟩
   have e:gg0.gt n ts m ps=((decide (10 < n)&&decide (n≤1000) ||decide (1005 < n)) ||tg0.gp m ps):=by show gtN n ts m ps=_;unfold gtN;rw [Bool.eq_false_iff.2 hg];rfl
   rw [gt_call]
   simp only [okV_vrow,rowV_vrow l1,rowV_vrow l2,cond_gt_eq _ _ _ _ _ _ hq,e,show tg0.okp m ps=true from k2,Bool.and_self,cond_true]
   by_cases h5:1005 < n
   ·rw [decide_eq_true h5,dT (show (1005:Int) < (n:Int) by omega),dT (show (10:Int) < (n:Int) by omega),dF (show ¬ (n:Int)≤1000 by omega),Bool.or_true];rfl
   ·rw [decide_eq_false h5,dF (show ¬ (1005:Int) < (n:Int) by omega)]
    by_cases h6:10 < n
    ·rw [decide_eq_true h6,dT (show (10:Int) < (n:Int) by omega)]
     by_cases h7:n≤1000
     ·rw [decide_eq_true h7,dT (show (n:Int)≤1000 by omega)];rfl
     ·rw [decide_eq_false h7,dF (show ¬ (n:Int)≤1000 by omega)];rfl
    ·rw [decide_eq_false h6,dF (show ¬ (10:Int) < (n:Int) by omega)];rfl
 ·cases h
end
end Go.Proofs.YtdnmkehncpfnnaaGreat.L
namespace Go.Proofs.YtdnmkehncpfnnaaGreat.L
open Go Go.V Go.RowKit Go.Proofs.YtdnmkehncpfnnaaGreat.Sp
open Go.Proofs (Tryz.prog)
noncomputable section
section
variable {at8 : Int} {r : Bool} {n : Nat} {ts ps : List Value} {xb : Bool} {xn xd : BA}
structure PcOk (n:Nat) (ts ps:List Value):Prop where
 l1:ts.length=n*3
 l2:ps.length=n*6
 ko:koN n ts n ps=true
 ck:ckN n ts n ps=0
end
end
end Go.Proofs.YtdnmkehncpfnnaaGreat.L
namespace Go.Proofs.YtdnmkehncpfnnaaGreat.L
open Go Go.V Go.RowKit Go.Proofs.YtdnmkehncpfnnaaGreat.Sp
open Go.Proofs (Tryz.prog)
noncomputable section
theorem room_rat' {m:Nat} (h:m≤2000):roomA Tryz.prog m 24=true:=by
 have e:Tryz.prog.bytesOf 24=40:=by kernel_rfl
 unfold roomA
 rw [e,decide_eq_true (show m*40≤140737488355328 by omega),decide_eq_true (show m≤9223372036854775807 by omega)];rfl
section
variable {er : Int} {n : Nat} {ts : List Value} {xb : Bool} {xn xd : BA} {pn : Nat} {cs : List Value}
end
section
variable {n : Nat} {ts : List Value} {m : Nat} {ps : List Value} {xb : Bool} {xn xd : BA} {pn : Nat} {pf : Nat → Nat → AV}
end
end
end Go.Proofs.YtdnmkehncpfnnaaGreat.L
namespace Go.Proofs.YtdnmkehncpfnnaaGreat.L
open Go Go.V Go.RowKit Go.Proofs.YtdnmkehncpfnnaaGreat.Sp
open Go.Proofs (Tryz.prog)
noncomputable section
theorem gr12 {n d:BA} (h:hg0.gr n d=false):hg0.ok n d=true:=by
 have h:(decide (12 < n.size) ||decide (12 < d.size))=false:=h
 rw [Bool.or_eq_false_iff,decide_eq_false_iff_not,decide_eq_false_iff_not] at h
 show (decide _&&decide _)=true
 rw [decide_eq_true (show n.size≤12 by omega),decide_eq_true (show d.size≤12 by omega)];rfl
theorem okm_12 {n d:BA} (h:hg0.ok n d=true):okm n d=true:=by
 obtain ⟨h1,h2⟩:=ok12_out h
 unfold okm
 rw [decide_eq_true (show n.size≤1000 by omega),decide_eq_true (show d.size≤1000 by omega)];rfl
theorem okm_rat {q:Rat} (h:szq q≤1000):okm (sq0.qs q) (sq0.qd q)=true:=by
 unfold szq at h
 have h1:=size_qs q
 have h2:=size_qd q
 unfold okm
 rw [decide_eq_true (show (sq0.qs q).size≤1000 by omega),decide_eq_true (show (sq0.qd q).size≤1000 by omega)];rfl
theorem ck_rat (q:Rat):sq0.ck (sq0.qn q) (sq0.qs q) (sq0.qd q)=0:=by
 show (bif (sq0.qn q==sq0.qn (sq0.qv (sq0.qn q) (sq0.qs q) (sq0.qd q)))&&strEq (sq0.qs q) (sq0.qs (sq0.qv (sq0.qn q) (sq0.qs q) (sq0.qd q)))&&strEq (sq0.qd q) (sq0.qd (sq0.qv (sq0.qn q) (sq0.qs q) (sq0.qd q))) then (0:Int) else 1)=0
 rw [qv_rat,beq_self_eq_true,strEq_self,strEq_self];rfl
structure Small (n:Nat) (ts:List Value) (m:Nat) (ps:List Value):Prop where
 ko:koN n ts m ps=true
 sz:∀ j,j < n→szq (qt ts j)≤12
 lim:n≤10∨1000 < n
 nx:n≤1005
theorem small_of {n:Nat} {ts:List Value} {m:Nat} {ps:List Value} (h1:okTs n ts=true) (h2:okpN m ps=true) (h:¬ gtN n ts m ps=true):Small n ts m ps:=by
 obtain ⟨hn,ht⟩:=okTs_out h1
 obtain ⟨hm,hp⟩:=okpN_out (show tg0.okp m ps=true from h2)
 unfold gtN at h
 rw [Bool.not_eq_true,Bool.or_eq_false_iff,Bool.or_eq_false_iff,Bool.or_eq_false_iff,Bool.and_eq_false_iff,decide_eq_false_iff_not,decide_eq_false_iff_not,decide_eq_false_iff_not] at h
 obtain ⟨⟨g1,g2,g3⟩,g4⟩:=h
 unfold gpN at g4
 rw [Bool.or_eq_false_iff] at g4
 have hx:∀ j,j < n→hg0.ok (asS (ts.getD (j*3+1) undef)) (asS (ts.getD (j*3+2) undef))=true:=fun j hj=>gr12 (none_lt (Bool.eq_false_iff.1 g1) hj)
 refine ⟨?_,fun j hj=>ok12_sz (hx j hj),by omega,by omega⟩
 unfold koN
 rw [Bool.and_eq_true,List.all_eq_true,List.all_eq_true]
 refine ⟨fun j hj=> ?_,fun j hj=> ?_⟩
 ·rw [List.mem_range] at hj
  unfold okX
  rw [ht j hj,okm_12 (hx j hj)];rfl
 ·rw [List.mem_range] at hj
  have h6:=none_lt (Bool.eq_false_iff.1 g4.1) hj
  unfold grP at h6
  rw [Bool.or_eq_false_iff] at h6
  unfold okQ
  rw [hp j hj,gr12 h6.1,gr12 h6.2];rfl
section
variable {n : Nat} {ts : List Value}
end
end
end Go.Proofs.YtdnmkehncpfnnaaGreat.L
namespace Go.Proofs.YtdnmkehncpfnnaaGreat.L
open Go Go.V Go.RowKit Go.Proofs.YtdnmkehncpfnnaaGreat.Sp
open Go.Proofs (Tryz.prog)
noncomputable section
def tVSub (K:Hg) (Z:Qg):TF:=p3 fun b n d c m e b2 n2 d2 c2 m2 e2=>some (K.ok n d&&K.ok m e&&K.ok n2 d2&&K.ok m2 e2,Z.pair (Z.qv b n d - Z.qv b2 n2 d2) (Z.qv c m e - Z.qv c2 m2 e2))
def tVDot (V:Vg) (Z:Qg):TF:=p3 fun b n d c m e b2 n2 d2 c2 m2 e2=>some (V.okl n d&&V.okl m e&&V.okl n2 d2&&V.okl m2 e2,Z.rat (Z.qv b n d*Z.qv b2 n2 d2+Z.qv c m e*Z.qv c2 m2 e2))
theorem vsub_tree (Z:Qg) (b c b2 c2:Bool) (n d m e n2 d2 m2 e2:BA):callA Tryz.prog ⟨CQd Z,Kall,noL⟩ 10 10 71 [w6 b n d c m e,w6 b2 n2 d2 c2 m2 e2]=
  (bif Z.ok n d&&Z.ok n2 d2 then (bif Z.ok m e&&Z.ok m2 e2 then some (.agg [(.val (.bool (Z.qn (Z.qv b n d - Z.qv b2 n2 d2)))),(.val (.string (Z.qs (Z.qv b n d - Z.qv b2 n2 d2)))),(.val (.string (Z.qd (Z.qv b n d - Z.qv b2 n2 d2)))),(.val (.bool (Z.qn (Z.qv c m e - Z.qv c2 m2 e2)))),(.val (.string (Z.qs (Z.qv c m e - Z.qv c2 m2 e2)))),(.val (.string (Z.qd (Z.qv c m e - Z.qv c2 m2 e2))))]) else none) else none):=by kernel_rfl
theorem vdot_tree (Z:Qg) (b c b2 c2:Bool) (n d m e n2 d2 m2 e2:BA):callA Tryz.prog ⟨CQd Z,Kall,noL⟩ 10 10 73 [w6 b n d c m e,w6 b2 n2 d2 c2 m2 e2]=
  (bif Z.ok n d&&Z.ok n2 d2 then (bif Z.ok m e&&Z.ok m2 e2 then (bif Z.ok (Z.qs (Z.qv b n d*Z.qv b2 n2 d2)) (Z.qd (Z.qv b n d*Z.qv b2 n2 d2))&&Z.ok (Z.qs (Z.qv c m e*Z.qv c2 m2 e2)) (Z.qd (Z.qv c m e*Z.qv c2 m2 e2)) then some (.agg [(.val (.bool (Z.qn (Z.qv (Z.qn (Z.qv b n d*Z.qv b2 n2 d2)) (Z.qs (Z.qv b n d*Z.qv b2 n2 d2)) (Z.qd (Z.qv b n d*Z.qv b2 n2 d2))+Z.qv (Z.qn (Z.qv c m e*Z.qv c2 m2 e2)) (Z.qs (Z.qv c m e*Z.qv c2 m2 e2)) (Z.qd (Z.qv c m e*Z.qv c2 m2 e2)))))),(.val (.string (Z.qs (Z.qv (Z.qn (Z.qv b n d*Z.qv b2 n2 d2)) (Z.qs (Z.qv b n d*Z.qv b2 n2 d2)) (Z.qd (Z.qv b n d*Z.qv b2 n2 d2))+Z.qv (Z.qn (Z.qv c m e*Z.qv c2 m2 e2)) (Z.qs (Z.qv c m e*Z.qv c2 m2 e2)) (Z.qd (Z.qv c m e*Z.qv c2 m2 e2)))))),(.val (.string (Z.qd (Z.qv (Z.qn (Z.qv b n d*Z.qv b2 n2 d2)) (Z.qs (Z.qv b n d*Z.qv b2 n2 d2)) (Z.qd (Z.qv b n d*Z.qv b2 n2 d2))+Z.qv (Z.qn (Z.qv c m e*Z.qv c2 m2 e2)) (Z.qs (Z.qv c m e*Z.qv c2 m2 e2)) (Z.qd (Z.qv c m e*Z.qv c2 m2 e2))))))]) else none) else none) else none):=by kernel_rfl
theorem eVSub:Entry Tryz.prog 71 (tVSub hg0 sq0):=by
 refine entry_of (E:= ⟨CQd sq0,Kall,noL⟩) (u:=10) (d:=10) CQd_ok loops_none mixed (by kernel_rfl) (fun args r h=> ?_)
 unfold tVSub p3 at h
 split at h
 ·rename_i b n d c m e b2 n2 d2 c2 m2 e2
  simp only [Option.some.injEq,Prod.mk.injEq,Bool.and_eq_true] at h
  obtain ⟨⟨⟨⟨h1,h2⟩,h3⟩,h4⟩,rfl⟩:=h
  rw [vsub_tree,ok12_q h1,ok12_q h2,ok12_q h3,ok12_q h4];rfl
 ·cases h
theorem eVDot:Entry Tryz.prog 73 (tVDot vg0 sq0):=by
 refine entry_of (E:= ⟨CQd sq0,Kall,noL⟩) (u:=10) (d:=10) CQd_ok loops_none mixed (by kernel_rfl) (fun args r h=> ?_)
 unfold tVDot p3 at h
 split at h
 ·rename_i b n d c m e b2 n2 d2 c2 m2 e2
  simp only [Option.some.injEq,Prod.mk.injEq,Bool.and_eq_true] at h
  obtain ⟨⟨⟨⟨h1,h2⟩,h3⟩,h4⟩,rfl⟩:=h
  have s1:=okl_sz (b:=b) h1
  have s2:=okl_sz (b:=c) h2
  have s3:=okl_sz (b:=b2) h3
  have s4:=okl_sz (b:=c2) h4
  have hcall:=vdot_tree sq0 b c b2 c2 n d m e n2 d2 m2 e2
  have o1:=okl_q h1
  have o2:=okl_q h2
  have o3:=okl_q h3
  have o4:=okl_q h4
  generalize sq0.qv b n d=x at*
  generalize sq0.qv c m e=y at*
  generalize sq0.qv b2 n2 d2=u at*
  generalize sq0.qv c2 m2 e2=v at*
  have y1:=szq_mul x u
  have y2:=szq_mul y v
  simp only [qv_rat,o1,o2,o3,o4,ok_rat (q:=x*u) (by omega),ok_rat (q:=y*v) (by omega),Bool.and_self,cond_true] at hcall
  exact hcall
 ·cases h
theorem okQ_sz' {ps:List Value} {j:Nat} (h:okQ ps j=true):szq (px ps j)≤12∧szq (py ps j)≤12:=by
 obtain ⟨_,h3,h4⟩:=okQ_out h
 exact ⟨ok12_sz h3,ok12_sz h4⟩
def rcS:Rec:= ⟨slots 37 [(4, .ptr 2 0)],#[15,16],25, [false,true,false,true,true,true], .ready,none⟩
def ESp (K:Hg) (V:Vg) (Z:Qg):Env:= ⟨addC 17 (gRR (tQSub Z)) (addC 71 (gPP (tVSub K Z)) (addC 73 (tVDot V Z) (addC 18 (tQMul Z) (addC 27 (tQQuo Z) (addC 21 (tQCompare Z) noC))))),fun _=>false,noL⟩
def recT (k:Nat):AV→Nat→Bool
 | .any,i=> !(i==k)
 | .ptr a b,i=>i==k&&(a==2&&b==0)
 | _,_=>false
def recOkS (r:Rec):Bool:=(r.T.length==37&&(List.range 37).all fun i=>recT 4 (lget r.T i) i)&&(r.params== #[15,16]&&(r.g==25&&(r.path== [false,true,false,true,true,true]&&((match r.st with | .ready=>true | _=>false)&&r.pend.isNone))))
theorem recT_out {k i:Nat} {v:AV} (h:recT k v i=true):v=if i=k then .ptr 2 0 else .any:=by
 unfold recT at h
 split at h
 ·rw [Bool.not_eq_true',beq_eq_false_iff_ne] at h
  rw [if_neg h]
 ·rw [Bool.and_eq_true,Bool.and_eq_true,beq_iff_eq,beq_iff_eq,beq_iff_eq] at h
  obtain ⟨rfl,rfl,rfl⟩:=h
  rw [if_pos rfl]
 ·cases h
theorem recOkS_out {r:Rec} (h:recOkS r=true):r=rcS:=by
 obtain ⟨T,ps,g,p,st,pd⟩:=r
 unfold recOkS at h
 simp only [Bool.and_eq_true,beq_iff_eq] at h
 obtain ⟨⟨h1,h2⟩,rfl,rfl,rfl,h3,h4⟩:=h
 have e1:st= .ready:=by cases st <;> first | rfl | cases h3
 have e2:pd=none:=by cases pd <;> first | rfl | cases h4
 subst e1 e2
 unfold rcS
 congr 1
 apply List.ext_getElem?
 intro i
 by_cases hi:i < 37
 ·have h5:=recT_out (List.all_eq_true.1 h2 i (List.mem_range.2 hi))
  rw [lget_eq,List.getElem?_eq_getElem (show i < T.length by omega),Option.getD_some] at h5
  rw [List.getElem?_eq_getElem (show i < T.length by omega),h5]
  unfold slots
  rw [List.getElem?_map,List.getElem?_range hi,Option.map_some]
  show _=some (slotAt [(4,AV.ptr 2 0)] i)
  unfold slotAt slotAt
  by_cases h6:i=4
  ·subst h6;rfl
  ·rw [if_neg h6,show ((4:Nat)==i)=false from beq_eq_false_iff_ne.2 (Ne.symm h6)];rfl
 ·rw [List.getElem?_eq_none (by omega),List.getElem?_eq_none (by unfold slots;simp;omega)]
abbrev p_sp:List Bool:= [false,true]
def sh_sp (i:Int) (n0:Nat) (f0:Nat→Nat→AV) (m0:Nat) (g0:Nat→Nat→AV) (zb:Bool) (zn:ByteArray) (zd:ByteArray) (mb:Bool) (mn:ByteArray) (md:ByteArray) (n:Nat) (ts:List Value) (m:Nat) (ps:List Value):List AV:=slots 40 [(0, .yld 4),(1, .ptr 3 0),(3, .val (.int .i64 i))]
def hp_sp (i:Int) (n0:Nat) (f0:Nat→Nat→AV) (m0:Nat) (g0:Nat→Nat→AV) (zb:Bool) (zn:ByteArray) (zd:ByteArray) (mb:Bool) (mn:ByteArray) (md:ByteArray) (n:Nat) (ts:List Value) (m:Nat) (ps:List Value):Hp:= [.row (.cells [.lst false 24 n0 f0,.lst false 38 m0 g0]) 30 .live, .row (.cells [.val (.bool zb), .val (.string zn), .val (.string zd)]) 24 .live, .row (.cells [.val (.bool mb), .val (.string mn), .val (.string md)]) 24 .live, .row (.cells [.lst false 24 n (vrow 3 ts), .lst false 38 m (vrow 6 ps)]) 30 .live, .loop rcS]
theorem body_sp:subC Tryz.prog 118 p_sp=some (.loop (lb 118 p_sp)):=by kernel_rfl
theorem code_sp:subC Tryz.prog 118 (false :: p_sp)=some (lb 118 p_sp):=by kernel_rfl
theorem round_sp (K:Hg) (V:Vg) (Z:Qg) (i:Int) (n0:Nat) (f0:Nat→Nat→AV) (m0:Nat) (g0:Nat→Nat→AV) (zb:Bool) (zn:ByteArray) (zd:ByteArray) (mb:Bool) (mn:ByteArray) (md:ByteArray) (n:Nat) (ts:List Value) (m:Nat) (ps:List Value):letI q_19:=(ps.getD (i.toNat*(6:Nat)+(1:Nat)) undef);letI q_20:=(ps.getD (i.toNat*(6:Nat)+(2:Nat)) undef);letI q_13:=(ps.getD ((i - (1:Int)).toNat*(6:Nat)+(1:Nat)) undef);letI q_14:=(ps.getD ((i - (1:Int)).toNat*(6:Nat)+(2:Nat)) undef);letI q_5:=(Z.qv (asB (ps.getD (i.toNat*(6:Nat)+(0:Nat)) undef)) (asS q_19) (asS q_20) - Z.qv (asB (ps.getD ((i - (1:Int)).toNat*(6:Nat)+(0:Nat)) undef)) (asS q_13) (asS q_14));letI q_21:=(ps.getD (i.toNat*(6:Nat)+(4:Nat)) undef);letI q_22:=(ps.getD (i.toNat*(6:Nat)+(5:Nat)) undef);letI q_15:=(ps.getD ((i - (1:Int)).toNat*(6:Nat)+(4:Nat)) undef);letI q_16:=(ps.getD ((i - (1:Int)).toNat*(6:Nat)+(5:Nat)) undef);letI q_6:=(Z.qv (asB (ps.getD (i.toNat*(6:Nat)+(3:Nat)) undef)) (asS q_21) (asS q_22) - Z.qv (asB (ps.getD ((i - (1:Int)).toNat*(6:Nat)+(3:Nat)) undef)) (asS q_15) (asS q_16));letI q_2:=(Z.qv (Z.qn q_5) (Z.qs q_5) (Z.qd q_5)*Z.qv (Z.qn q_5) (Z.qs q_5) (Z.qd q_5)+Z.qv (Z.qn q_6) (Z.qs q_6) (Z.qd q_6)*Z.qv (Z.qn q_6) (Z.qs q_6) (Z.qd q_6));letI q_17:=(ts.getD (i.toNat*(3:Nat)+(1:Nat)) undef);letI q_18:=(ts.getD (i.toNat*(3:Nat)+(2:Nat)) undef);letI q_11:=(ts.getD ((i - (1:Int)).toNat*(3:Nat)+(1:Nat)) undef);letI q_12:=(ts.getD ((i - (1:Int)).toNat*(3:Nat)+(2:Nat)) undef);letI q_3:=(Z.qv (asB (ts.getD (i.toNat*(3:Nat)+(0:Nat)) undef)) (asS q_17) (asS q_18) - Z.qv (asB (ts.getD ((i - (1:Int)).toNat*(3:Nat)+(0:Nat)) undef)) (asS q_11) (asS q_12));letI q_8:=(Z.qv (Z.qn q_3) (Z.qs q_3) (Z.qd q_3)*Z.qv (Z.qn q_3) (Z.qs q_3) (Z.qd q_3));letI q_1:=(Z.qv (Z.qn q_2) (Z.qs q_2) (Z.qd q_2) / Z.qv (Z.qn q_8) (Z.qs q_8) (Z.qd q_8));letI q_9:=(Rec.mk rcS.T rcS.params (25:Nat) rcS.path LoopState.busy rcS.pend);letI q_4:=(Rec.mk q_9.T q_9.params (25:Nat) q_9.path LoopState.ready none);letI q_7:=(Rec.mk (maskA (recMask [(0:Nat),(1:Nat),(3:Nat),(1004:Nat)]) q_4.T) q_4.params (25:Nat) q_4.path q_4.st q_4.pend);letI q_10:=(Rec.mk (maskA (recMask [(0:Nat),(1:Nat),(3:Nat),(1004:Nat)]) rcS.T) rcS.params (25:Nat) rcS.path rcS.st rcS.pend);
  (roundF Tryz.prog (ESp K V Z) 5 118 [0,1,3,1004] (lb 118 p_sp) (false :: p_sp) (sh_sp i n0 f0 m0 g0 zb zn zd mb mn md n ts m ps) (hp_sp i n0 f0 m0 g0 zb zn zd mb mn md n ts m ps)=(bif decide (i < (↑n:Int)) then (bif decide ((0:Int)≤i)&&decide (i < (↑n:Int)) then (bif inR IntKind.i64 (i - (1:Int)) then (bif decide ((0:Int)≤i - (1:Int))&&decide (i - (1:Int) < (↑n:Int)) then (bif isRat (ts.getD (i.toNat*(3:Nat)+(0:Nat)) undef) q_17 q_18&&isRat (ts.getD ((i - (1:Int)).toNat*(3:Nat)+(0:Nat)) undef) q_11 q_12&&(Z.ok (asS q_17) (asS q_18)&&Z.ok (asS q_11) (asS q_12)) then (bif decide ((0:Int)≤i)&&decide (i < (↑m:Int)) then (bif inR IntKind.i64 (i - (1:Int)) then (bif decide ((0:Int)≤i - (1:Int))&&decide (i - (1:Int) < (↑m:Int)) then (bif isRat (ps.getD (i.toNat*(6:Nat)+(0:Nat)) undef) q_19 q_20&&isRat (ps.getD (i.toNat*(6:Nat)+(3:Nat)) undef) q_21 q_22&&(isRat (ps.getD ((i - (1:Int)).toNat*(6:Nat)+(0:Nat)) undef) q_13 q_14&&isRat (ps.getD ((i - (1:Int)).toNat*(6:Nat)+(3:Nat)) undef) q_15 q_16)&&(K.ok (asS q_19) (asS q_20)&&K.ok (asS q_21) (asS q_22)&&K.ok (asS q_13) (asS q_14)&&K.ok (asS q_15) (asS q_16)) then (bif V.okl (Z.qs q_5) (Z.qd q_5)&&V.okl (Z.qs q_6) (Z.qd q_6)&&V.okl (Z.qs q_5) (Z.qd q_5)&&V.okl (Z.qs q_6) (Z.qd q_6) then (bif Z.ok (Z.qs q_3) (Z.qd q_3)&&Z.ok (Z.qs q_3) (Z.qd q_3) then (bif Z.ok (Z.qs q_2) (Z.qd q_2)&&Z.ok (Z.qs q_8) (Z.qd q_8) then (bif Z.ok (Z.qs q_1) (Z.qd q_1)&&Z.ok mn md then (bif decide ((0:Int) < Z.cq (Z.qv (Z.qn q_1) (Z.qs q_1) (Z.qd q_1)) (Z.qv mb mn md)) then (bif inR IntKind.i64 (i+(1:Int)) then some (.normal,slots 40 [(0,(.yld 4)),(1,(.ptr 3 0)),(3,(.val (.int .i64 (i+(1:Int)))))], [(.row (.cells [(.lst false 24 n0 (f0)),(.lst false 38 m0 (g0))]) 30 .live),(.row (.cells [(.val (.bool zb)),(.val (.string zn)),(.val (.string zd))]) 24 .live),(.row (.cells [(.val (.bool (Z.qn q_1))),(.val (.string (Z.qs q_1))),(.val (.string (Z.qd q_1)))]) 24 .live),(.row (.cells [(.lst false 24 n (vrow (3:Nat) ts)),(.lst false 38 m (vrow (6:Nat) ps))]) 30 .live),(.loop (.mk [.any, .any, .any, .any,(.ptr 2 0), .any, .any, .any, .any, .any, .any, .any, .any, .any, .any, .any, .any, .any, .any, .any, .any, .any, .any, .any, .any, .any, .any, .any, .any, .any, .any, .any, .any, .any, .any, .any, .any] (q_7.params) 25 (q_7.path) .ready .none))]) else none) else (bif inR IntKind.i64 (i+(1:Int)) then some (.normal,slots 40 [(0,(.yld 4)),(1,(.ptr 3 0)),(3,(.val (.int .i64 (i+(1:Int)))))], [(.row (.cells [(.lst false 24 n0 (f0)),(.lst false 38 m0 (g0))]) 30 .live),(.row (.cells [(.val (.bool zb)),(.val (.string zn)),(.val (.string zd))]) 24 .live),(.row (.cells [(.val (.bool mb)),(.val (.string mn)),(.val (.string md))]) 24 .live),(.row (.cells [(.lst false 24 n (vrow (3:Nat) ts)),(.lst false 38 m (vrow (6:Nat) ps))]) 30 .live),(.loop (.mk [.any, .any, .any, .any,(.ptr 2 0), .any, .any, .any, .any, .any, .any, .any, .any, .any, .any, .any, .any, .any, .any, .any, .any, .any, .any, .any, .any, .any, .any, .any, .any, .any, .any, .any, .any, .any, .any, .any, .any] (q_7.params) 25 (q_7.path) .ready .none))]) else none)) else none) else none) else none) else none) else none) else none) else none) else none) else none) else none) else none) else none) else some ((.exit 0),slots 40 [(0,(.yld 4)),(1,(.ptr 3 0)),(3,(.val (.int .i64 i)))], [(.row (.cells [(.lst false 24 n0 (f0)),(.lst false 38 m0 (g0))]) 30 .live),(.row (.cells [(.val (.bool zb)),(.val (.string zn)),(.val (.string zd))]) 24 .live),(.row (.cells [(.val (.bool mb)),(.val (.string mn)),(.val (.string md))]) 24 .live),(.row (.cells [(.lst false 24 n (vrow (3:Nat) ts)),(.lst false 38 m (vrow (6:Nat) ps))]) 30 .live),(.loop (.mk [.any, .any, .any, .any,(.ptr 2 0), .any, .any, .any, .any, .any, .any, .any, .any, .any, .any, .any, .any, .any, .any, .any, .any, .any, .any, .any, .any, .any, .any, .any, .any, .any, .any, .any, .any, .any, .any, .any, .any] (q_10.params) 25 (q_10.path) .ready .none))]))):=by kernel_rfl
theorem step_sp {i:Int} {n0:Nat} {f0:Nat→Nat→AV} {m0:Nat} {g0:Nat→Nat→AV} {zb:Bool} {zn:ByteArray} {zd:ByteArray} {mb:Bool} {mn:ByteArray} {md:ByteArray} {n:Nat} {ts:List Value} {m:Nat} {ps:List Value} {e:Ex} {T:List AV} {H:Hp} (h:roundF Tryz.prog (ESp hg0 vg0 sq0) 5 118 [0,1,3,1004] (lb 118 p_sp) (false :: p_sp) (sh_sp i n0 f0 m0 g0 zb zn zd mb mn md n ts m ps) (hp_sp i n0 f0 m0 g0 zb zn zd mb mn md n ts m ps)=some (e,T,H)):V.Ends Tryz.prog false 5 0 (lb 118 p_sp) (sh_sp i n0 f0 m0 g0 zb zn zd mb mn md n ts m ps) (hp_sp i n0 f0 m0 g0 zb zn zd mb mn md n ts m ps) e T H:=
 round_endsF (((((((meets_none _).add eQCompare).add eQQuo).add eQMul).add eVDot).add eVSub.gPP).add eQSub.gRR) loops_none mixed code_sp h
def sdx (ps:List Value) (j:Nat):Rat:=(px ps (j+1) - px ps j)*(px ps (j+1) - px ps j)+(py ps (j+1) - py ps j)*(py ps (j+1) - py ps j)
def sdt (ts:List Value) (j:Nat):Rat:=(qt ts (j+1) - qt ts j)*(qt ts (j+1) - qt ts j)
def mxN (ts ps:List Value):Nat→Rat
 | 0=>0
 | k+1=>if mxN ts ps k < sdx ps k / sdt ts k then sdx ps k / sdt ts k else mxN ts ps k
theorem sd_sz {n:Nat} {ts ps:List Value} (h:PlOk n ts n ps) {j:Nat} (hj:j+1 < n):szq (px ps (j+1) - px ps j)≤25∧szq (py ps (j+1) - py ps j)≤25∧szq (sdx ps j)≤101∧szq (qt ts (j+1) - qt ts j)≤2001∧szq (sdt ts j)≤4002∧szq (sdx ps j / sdt ts j)≤4104:=by
 obtain ⟨a1,a2⟩:=okQ_sz' (h.pts j (by omega))
 obtain ⟨a3,a4⟩:=okQ_sz' (h.pts (j+1) hj)
 have b1:=okX_sz (h.ts.ok j (by omega))
 have b2:=okX_sz (h.ts.ok (j+1) hj)
 have c1:=szq_sub (px ps (j+1)) (px ps j)
 have c2:=szq_sub (py ps (j+1)) (py ps j)
 have c3:=szq_mul (px ps (j+1) - px ps j) (px ps (j+1) - px ps j)
 have c4:=szq_mul (py ps (j+1) - py ps j) (py ps (j+1) - py ps j)
 have c5:=szq_add ((px ps (j+1) - px ps j)*(px ps (j+1) - px ps j)) ((py ps (j+1) - py ps j)*(py ps (j+1) - py ps j))
 have c6:=szq_sub (qt ts (j+1)) (qt ts j)
 have c7:=szq_mul (qt ts (j+1) - qt ts j) (qt ts (j+1) - qt ts j)
 have c8:=szq_div (sdx ps j) (sdt ts j)
 unfold sdx sdt at*
 omega
theorem mx_sz {n:Nat} {ts ps:List Value} (h:PlOk n ts n ps):∀ j,j < n→szq (mxN ts ps j)≤4104
 | 0,_=>Nat.le_trans szq_zero (by decide)
 | j+1,hj=>by
  unfold mxN
  split
  ·exact (sd_sz h hj).2.2.2.2.2
  ·exact mx_sz h j (by omega)
theorem cq_gt' {a b:Rat} :0 < sq0.cq a b↔b < a:=by
 show 0 < cqn a b↔_
 unfold cqn
 split
 ·rename_i h;exact ⟨fun h2=>by omega,fun h2=>by grind⟩
 ·split
  ·rename_i h;exact ⟨fun _=>h,fun _=>by omega⟩
  ·rename_i h;exact ⟨fun h2=>by omega,fun h2=>absurd h2 h⟩
section
variable {n0 : Nat} {f0 : Nat → Nat → AV} {m0 : Nat} {g0 : Nat → Nat → AV} {zb : Bool} {zn zd : BA} {n : Nat} {ts ps : List Value}
theorem sp_step (h:PlOk n ts n ps) (j:Nat) (hj:j+1 < n):V.Ends Tryz.prog false 5 0 (lb 118 p_sp) (sh_sp ((j+1:Nat):Int) n0 f0 m0 g0 zb zn zd (sq0.qn (mxN ts ps j)) (sq0.qs (mxN ts ps j)) (sq0.qd (mxN ts ps j)) n ts n ps) (hp_sp ((j+1:Nat):Int) n0 f0 m0 g0 zb zn zd (sq0.qn (mxN ts ps j)) (sq0.qs (mxN ts ps j)) (sq0.qd (mxN ts ps j)) n ts n ps) .normal (sh_sp ((j+1+1:Nat):Int) n0 f0 m0 g0 zb zn zd (sq0.qn (mxN ts ps (j+1))) (sq0.qs (mxN ts ps (j+1))) (sq0.qd (mxN ts ps (j+1))) n ts n ps) (hp_sp ((j+1+1:Nat):Int) n0 f0 m0 g0 zb zn zd (sq0.qn (mxN ts ps (j+1))) (sq0.qs (mxN ts ps (j+1))) (sq0.qd (mxN ts ps (j+1))) n ts n ps):=by
 have hlim:=h.ts.lim
 obtain ⟨a1,a2⟩:=okX_out (h.ts.ok j (by omega))
 obtain ⟨b1,b2⟩:=okX_out (h.ts.ok (j+1) hj)
 obtain ⟨⟨c1,c2⟩,c3,c4⟩:=okQ_out (h.pts j (by omega))
 obtain ⟨⟨d1,d2⟩,d3,d4⟩:=okQ_out (h.pts (j+1) hj)
 obtain ⟨s1,s2,s3,s4,s5,s6⟩:=sd_sz h hj
 have s7:=mx_sz h j (by omega)
 have hr:=round_sp hg0 vg0 sq0 ((j+1:Nat):Int) n0 f0 m0 g0 zb zn zd (sq0.qn (mxN ts ps j)) (sq0.qs (mxN ts ps j)) (sq0.qd (mxN ts ps j)) n ts n ps
 have e1:((j+1:Nat):Int) - 1=(j:Int):=by omega
 have ex:(px ps (j+1) - px ps j)*(px ps (j+1) - px ps j)+(py ps (j+1) - py ps j)*(py ps (j+1) - py ps j)=sdx ps j:=rfl
 have et:(qt ts (j+1) - qt ts j)*(qt ts (j+1) - qt ts j)=sdt ts j:=rfl
 simp only [e1,Int.toNat_natCast,qt_eq,px_eq,py_eq,qv_rat,ex,et] at hr
 rw [dT (show ((j+1:Nat):Int) < (n:Int) by omega),dT (show (0:Int)≤((j+1:Nat):Int) by omega),i64T (z:=(j:Int)) (by omega),dT (show (0:Int)≤(j:Int) by omega),dT (show (j:Int) < (n:Int) by omega),a1,okm_q a2,b1,okm_q b2,c1,c2,c3,c4,d1,d2,d3,d4,
  okl_rat (q:=px ps (j+1) - px ps j) (by omega),okl_rat (q:=py ps (j+1) - py ps j) (by omega),ok_rat (q:=qt ts (j+1) - qt ts j) (by omega),ok_rat (q:=sdx ps j) (by omega),ok_rat (q:=sdt ts j) (by omega),ok_rat (q:=sdx ps j / sdt ts j) (by omega),ok_rat (q:=mxN ts ps j) (by omega),i64T (z:=((j+1:Nat):Int)+1) (by omega)] at hr
 by_cases hq:mxN ts ps j < sdx ps j / sdt ts j
 ·rw [dT (cq_gt'.2 hq)] at hr
  have em:mxN ts ps (j+1)=sdx ps j / sdt ts j:=if_pos hq
  rw [em]
  exact step_sp hr
 ·rw [dF (fun hh=>hq (cq_gt'.1 hh))] at hr
  have em:mxN ts ps (j+1)=mxN ts ps j:=if_neg hq
  rw [em]
  exact step_sp hr
theorem sp_go (h:PlOk n ts n ps) (k:Nat):∀ j,n=j+1+k→LoopToB Tryz.prog 5 (lb 118 p_sp) (sh_sp ((j+1:Nat):Int) n0 f0 m0 g0 zb zn zd (sq0.qn (mxN ts ps j)) (sq0.qs (mxN ts ps j)) (sq0.qd (mxN ts ps j)) n ts n ps) (hp_sp ((j+1:Nat):Int) n0 f0 m0 g0 zb zn zd (sq0.qn (mxN ts ps j)) (sq0.qs (mxN ts ps j)) (sq0.qd (mxN ts ps j)) n ts n ps) (.exit 0) (sh_sp (n:Int) n0 f0 m0 g0 zb zn zd (sq0.qn (mxN ts ps (n - 1))) (sq0.qs (mxN ts ps (n - 1))) (sq0.qd (mxN ts ps (n - 1))) n ts n ps) (hp_sp (n:Int) n0 f0 m0 g0 zb zn zd (sq0.qn (mxN ts ps (n - 1))) (sq0.qs (mxN ts ps (n - 1))) (sq0.qd (mxN ts ps (n - 1))) n ts n ps):=by
 induction k with
 | zero=>
  intro j hj
  have:n=j+1:=by omega
  subst this
  refine .last (step_sp ?_) (by intro h;cases h)
  rw [round_sp,dF (show ¬ ((j+1:Nat):Int) < ((j+1:Nat):Int) by omega)]
  rfl
 | succ k ih=>
  intro j hj
  exact .more (sp_step h j (by omega)) (ih (j+1) (by omega))
end
def pre_sp (i:Int) (n0:Nat) (f0:Nat→Nat→AV) (m0:Nat) (g0:Nat→Nat→AV) (zb:Bool) (zn zd:BA) (mb:Bool) (mn md:BA) (n:Nat) (ts:List Value) (m:Nat) (ps:List Value):Prop:=i=1∧n=m∧mb=sq0.qn 0∧mn=sq0.qs 0∧md=sq0.qd 0∧PlOk n ts m ps
def post_sp (i:Int) (n0:Nat) (f0:Nat→Nat→AV) (m0:Nat) (g0:Nat→Nat→AV) (zb:Bool) (zn zd:BA) (mb:Bool) (mn md:BA) (n:Nat) (ts:List Value) (m:Nat) (ps:List Value) (ρ:Int×Bool×BA×BA):Prop:=ρ.2=(sq0.qn (mxN ts ps (n - 1)),sq0.qs (mxN ts ps (n - 1)),sq0.qd (mxN ts ps (n - 1)))
theorem loop_sp (i:Int) (n0:Nat) (f0:Nat→Nat→AV) (m0:Nat) (g0:Nat→Nat→AV) (zb:Bool) (zn zd:BA) (mb:Bool) (mn md:BA) (n:Nat) (ts:List Value) (m:Nat) (ps:List Value) (h:pre_sp i n0 f0 m0 g0 zb zn zd mb mn md n ts m ps):∃ ρ:Int×Bool×BA×BA,LoopToB Tryz.prog 5 (lb 118 p_sp) (sh_sp i n0 f0 m0 g0 zb zn zd mb mn md n ts m ps) (hp_sp i n0 f0 m0 g0 zb zn zd mb mn md n ts m ps) (.exit 0) (sh_sp ρ.1 n0 f0 m0 g0 zb zn zd ρ.2.1 ρ.2.2.1 ρ.2.2.2 n ts m ps) (hp_sp ρ.1 n0 f0 m0 g0 zb zn zd ρ.2.1 ρ.2.2.1 ρ.2.2.2 n ts m ps)∧post_sp i n0 f0 m0 g0 zb zn zd mb mn md n ts m ps ρ:=by
 obtain ⟨rfl,rfl,rfl,rfl,rfl,hP⟩:=h
 have hp:=hP.pos
 exact ⟨((n:Int),_,_,_),sp_go hP (n - 1) 0 (by omega),rfl⟩
def told_sp (κ:Int→Nat→(Nat→Nat→AV)→Nat→(Nat→Nat→AV)→Bool→ByteArray→ByteArray→Bool→ByteArray→ByteArray→Nat→List Value→Nat→List Value→Bool) (φ:Int→Nat→(Nat→Nat→AV)→Nat→(Nat→Nat→AV)→Bool→ByteArray→ByteArray→Bool→ByteArray→ByteArray→Nat→List Value→Nat→List Value→Int×Bool×ByteArray×ByteArray) (T:List AV) (H:Hp):Option (Bool×Ex×List AV×Hp):=
 match lget T 0,lget T 1,lget T 3,H with
 | .yld 4, .ptr 3 0, .val (.int .i64 i), [.row (.cells [.lst false 24 n0 f0,.lst false 38 m0 g0]) 30 .live, .row (.cells [.val (.bool zb), .val (.string zn), .val (.string zd)]) 24 .live, .row (.cells [.val (.bool mb), .val (.string mn), .val (.string md)]) 24 .live, .row (.cells [.lst false 24 n f_ts, .lst false 38 m f_ps]) 30 .live, .loop rr]=>bif T.length==40 then some (okV 3 n f_ts&&okV 6 m f_ps&&recOkS rr&&κ i n0 f0 m0 g0 zb zn zd mb mn md n (rowV 3 n f_ts) m (rowV 6 m f_ps), .exit 0,sh_sp ((φ i n0 f0 m0 g0 zb zn zd mb mn md n (rowV 3 n f_ts) m (rowV 6 m f_ps)).1) n0 f0 m0 g0 zb zn zd ((φ i n0 f0 m0 g0 zb zn zd mb mn md n (rowV 3 n f_ts) m (rowV 6 m f_ps)).2.1) ((φ i n0 f0 m0 g0 zb zn zd mb mn md n (rowV 3 n f_ts) m (rowV 6 m f_ps)).2.2.1) ((φ i n0 f0 m0 g0 zb zn zd mb mn md n (rowV 3 n f_ts) m (rowV 6 m f_ps)).2.2.2) n (rowV 3 n f_ts) m (rowV 6 m f_ps),hp_sp ((φ i n0 f0 m0 g0 zb zn zd mb mn md n (rowV 3 n f_ts) m (rowV 6 m f_ps)).1) n0 f0 m0 g0 zb zn zd ((φ i n0 f0 m0 g0 zb zn zd mb mn md n (rowV 3 n f_ts) m (rowV 6 m f_ps)).2.1) ((φ i n0 f0 m0 g0 zb zn zd mb mn md n (rowV 3 n f_ts) m (rowV 6 m f_ps)).2.2.1) ((φ i n0 f0 m0 g0 zb zn zd mb mn md n (rowV 3 n f_ts) m (rowV 6 m f_ps)).2.2.2) n (rowV 3 n f_ts) m (rowV 6 m f_ps)) else none
 | _,_,_,_=>none
abbrev KT_sp:Type:=Int→Nat→(Nat→Nat→AV)→Nat→(Nat→Nat→AV)→Bool→ByteArray→ByteArray→Bool→ByteArray→ByteArray→Nat→List Value→Nat→List Value→Bool
abbrev FT_sp:Type:=Int→Nat→(Nat→Nat→AV)→Nat→(Nat→Nat→AV)→Bool→ByteArray→ByteArray→Bool→ByteArray→ByteArray→Nat→List Value→Nat→List Value→Int×Bool×ByteArray×ByteArray
def LL_sp (κ:KT_sp) (φ:FT_sp) (L:LTab):LTab:=addLn 5 118 p_sp [0,1,3,1004] (told_sp κ φ) L
def phi_sp (i:Int) (n0:Nat) (f0:Nat→Nat→AV) (m0:Nat) (g0:Nat→Nat→AV) (zb:Bool) (zn:ByteArray) (zd:ByteArray) (mb:Bool) (mn:ByteArray) (md:ByteArray) (n:Nat) (ts:List Value) (m:Nat) (ps:List Value):Int×Bool×ByteArray×ByteArray:=Classical.epsilon fun ρ=>LoopToB Tryz.prog 5 (lb 118 p_sp) (sh_sp i n0 f0 m0 g0 zb zn zd mb mn md n ts m ps) (hp_sp i n0 f0 m0 g0 zb zn zd mb mn md n ts m ps) (.exit 0) (sh_sp (ρ.1) n0 f0 m0 g0 zb zn zd (ρ.2.1) (ρ.2.2.1) (ρ.2.2.2) n ts m ps) (hp_sp (ρ.1) n0 f0 m0 g0 zb zn zd (ρ.2.1) (ρ.2.2.1) (ρ.2.2.2) n ts m ps)∧post_sp i n0 f0 m0 g0 zb zn zd mb mn md n ts m ps ρ
theorem phi_sp_spec (i:Int) (n0:Nat) (f0:Nat→Nat→AV) (m0:Nat) (g0:Nat→Nat→AV) (zb:Bool) (zn:ByteArray) (zd:ByteArray) (mb:Bool) (mn:ByteArray) (md:ByteArray) (n:Nat) (ts:List Value) (m:Nat) (ps:List Value) (h:pre_sp i n0 f0 m0 g0 zb zn zd mb mn md n ts m ps):LoopToB Tryz.prog 5 (lb 118 p_sp) (sh_sp i n0 f0 m0 g0 zb zn zd mb mn md n ts m ps) (hp_sp i n0 f0 m0 g0 zb zn zd mb mn md n ts m ps) (.exit 0) (sh_sp ((phi_sp i n0 f0 m0 g0 zb zn zd mb mn md n ts m ps).1) n0 f0 m0 g0 zb zn zd ((phi_sp i n0 f0 m0 g0 zb zn zd mb mn md n ts m ps).2.1) ((phi_sp i n0 f0 m0 g0 zb zn zd mb mn md n ts m ps).2.2.1) ((phi_sp i n0 f0 m0 g0 zb zn zd mb mn md n ts m ps).2.2.2) n ts m ps) (hp_sp ((phi_sp i n0 f0 m0 g0 zb zn zd mb mn md n ts m ps).1) n0 f0 m0 g0 zb zn zd ((phi_sp i n0 f0 m0 g0 zb zn zd mb mn md n ts m ps).2.1) ((phi_sp i n0 f0 m0 g0 zb zn zd mb mn md n ts m ps).2.2.1) ((phi_sp i n0 f0 m0 g0 zb zn zd mb mn md n ts m ps).2.2.2) n ts m ps)∧post_sp i n0 f0 m0 g0 zb zn zd mb mn md n ts m ps (phi_sp i n0 f0 m0 g0 zb zn zd mb mn md n ts m ps):=Classical.epsilon_spec (loop_sp i n0 f0 m0 g0 zb zn zd mb mn md n ts m ps h)
def cond_sp (i:Int) (n0:Nat) (f0:Nat→Nat→AV) (m0:Nat) (g0:Nat→Nat→AV) (zb:Bool) (zn:ByteArray) (zd:ByteArray) (mb:Bool) (mn:ByteArray) (md:ByteArray) (n:Nat) (ts:List Value) (m:Nat) (ps:List Value):Bool:= @decide (pre_sp i n0 f0 m0 g0 zb zn zd mb mn md n ts m ps) (Classical.propDecidable _)
theorem cond_sp_eq (i:Int) (n0:Nat) (f0:Nat→Nat→AV) (m0:Nat) (g0:Nat→Nat→AV) (zb:Bool) (zn:ByteArray) (zd:ByteArray) (mb:Bool) (mn:ByteArray) (md:ByteArray) (n:Nat) (ts:List Value) (m:Nat) (ps:List Value) (h:pre_sp i n0 f0 m0 g0 zb zn zd mb mn md n ts m ps):cond_sp i n0 f0 m0 g0 zb zn zd mb mn md n ts m ps=true:= @decide_eq_true _ (Classical.propDecidable _) h
theorem told_sp_ok (T:List AV) (H:Hp) (e:Ex) (T1:List AV) (H1:Hp) (h:told_sp cond_sp phi_sp T H=some (true,e,T1,H1)):V.Ends Tryz.prog false 5 0 (.loop (lb 118 p_sp)) T H e T1 H1:=by
 unfold told_sp at h
 split at h
 ·rename_i i n0 f0 m0 g0 zb zn zd mb mn md n f_ts m f_ps rr h0 h1 h3
  rw [Bool.cond_eq_ite] at h
  split at h
  ·rename_i hlen
   rw [beq_iff_eq] at hlen
   simp only [Option.some.injEq,Prod.mk.injEq,Bool.and_eq_true,decide_eq_true_eq] at h
   obtain ⟨⟨⟨⟨k1,k2⟩,k3⟩,k4⟩,rfl,rfl,rfl⟩:=h
   obtain rfl:rr=rcS:=recOkS_out k3
   have kc:= @of_decide_eq_true _ (Classical.propDecidable _) k4
   refine Ends.pre (Ends.preH (phi_sp_spec i n0 f0 m0 g0 zb zn zd mb mn md n (rowV 3 n f_ts) m (rowV 6 m f_ps) kc).1.ends (sameH.cons (sameB.refl _) (sameH.cons (sameB.refl _) (sameH.cons (sameB.refl _) (sameH.cons ⟨⟨rfl,fun _ _ _ _ _ hh=>rel_trj (by kernel_rfl) (by kernel_rfl) k1 k2 hh⟩,rfl,rfl⟩ (sameH.cons (sameB.refl _) sameH.nil)))))) (fun α B w D ys hr=>slots_rel hlen (fun p hp y hy=> ?_) hr)
   simp only [List.mem_cons,List.not_mem_nil,or_false] at hp
   rcases hp with rfl | rfl | rfl
   ·rw [h0] at hy;exact hy
   ·rw [h1] at hy;exact hy
   ·rw [h3] at hy;exact hy
  ·cases h
 ·cases h
theorem LL_sp_ok {L:LTab} (h:LOk Tryz.prog L):LOk Tryz.prog (LL_sp cond_sp phi_sp L):=h.add2n body_sp told_sp_ok
end
end Go.Proofs.YtdnmkehncpfnnaaGreat.L
namespace Go.Proofs.YtdnmkehncpfnnaaGreat.L
open Go Go.V Go.RowKit Go.Proofs.YtdnmkehncpfnnaaGreat.Sp
open Go.Proofs (Tryz.prog)
noncomputable section
structure Pg where
 sv:Nat→List Value→Nat→List Value→Rat
 se:Nat→List Value→Nat→List Value→Int
def spE (n:Nat) (ts:List Value) (m:Nat) (ps:List Value):Int:=if ckN n ts m ps=0 then 0 else 1
def pg0:Pg where
 sv n ts m ps:=if ckN n ts m ps=0 then mxN ts ps (n - 1) else 0
 se:=spE
def tSpeed (C:Cg) (P:Pg) (Z:Qg):TF:=fun args=>match args with
 | [.agg [.lst _ 24 n f, .lst _ 38 m g]]=>some (okV 3 n f&&okV 6 m g&&C.ko n (rowV 3 n f) m (rowV 6 m g), .tup [Z.rat (P.sv n (rowV 3 n f) m (rowV 6 m g)), .val (.int .i64 (P.se n (rowV 3 n f) m (rowV 6 m g)))])
 | _=>none
theorem speed_call (C:Cg) (κ:KT_sp) (φ:FT_sp) (n:Nat) (ts:List Value) (m:Nat) (ps:List Value):letI q_2:=(rowV (3:Nat) n (vrow (3:Nat) ts));letI q_3:=(rowV (6:Nat) m (vrow (6:Nat) ps));letI q_1:=(φ (1:Int) n (vrow (3:Nat) ts) m (vrow (6:Nat) ps) false (ByteArray.mk #[]) (ByteArray.mk #[]) false (ByteArray.mk #[]) (ByteArray.mk #[]) n q_2 m q_3);
  (callA Tryz.prog ⟨addC 28 (tChk C) noC,fun _=>false,LL_sp κ φ noL⟩ 10 10 25 [aTrj n ts m ps]=(bif okV (3:Nat) n (vrow (3:Nat) ts)&&okV (6:Nat) m (vrow (6:Nat) ps)&&C.ko n q_2 m q_3 then (bif !decide (C.ck n q_2 m q_3=(0:Int)) then some (.tup [(.agg [(.val (.bool false)),(.val (.string (ByteArray.mk #[]))),(.val (.string (ByteArray.mk #[])))]),(.val (.int .i64 1))]) else (bif okV (3:Nat) n (vrow (3:Nat) ts)&&okV (6:Nat) m (vrow (6:Nat) ps)&&true&&κ (1:Int) n (vrow (3:Nat) ts) m (vrow (6:Nat) ps) false (ByteArray.mk #[]) (ByteArray.mk #[]) false (ByteArray.mk #[]) (ByteArray.mk #[]) n q_2 m q_3 then some (.tup [(.agg [(.val (.bool (q_1.snd.fst))),(.val (.string (q_1.snd.snd.fst))),(.val (.string (q_1.snd.snd.snd)))]),(.val (.int .i64 0))]) else none)) else none)):=by kernel_rfl
theorem speed_val (n:Nat) (ts:List Value) (m:Nat) (ps:List Value) (l1:ts.length=n*3) (l2:ps.length=m*6) (ho:koN n ts m ps=true):
  callA Tryz.prog ⟨addC 28 (tChk cg0) noC,fun _=>false,LL_sp cond_sp phi_sp noL⟩ 10 10 25 [aTrj n ts m ps]=some (.tup [sq0.rat (pg0.sv n ts m ps), .val (.int .i64 (pg0.se n ts m ps))]):=by
 rw [speed_call,rowV_vrow l1,rowV_vrow l2,okV_vrow,okV_vrow,show cg0.ko n ts m ps=true from ho]
 by_cases h:ckN n ts m ps=0
 ·have hP:=plOk_of ho h
  have hsv:pg0.sv n ts m ps=mxN ts ps (n - 1):=if_pos h
  have hse:pg0.se n ts m ps=0:=if_pos h
  have hq:pre_sp 1 n (vrow 3 ts) m (vrow 6 ps) false (ByteArray.mk #[]) (ByteArray.mk #[]) false (ByteArray.mk #[]) (ByteArray.mk #[]) n ts m ps:= ⟨rfl,hP.eq,qn_zero.symm,qs_zero.symm,qd_zero.symm,hP⟩
  have hr:=(phi_sp_spec _ _ _ _ _ _ _ _ _ _ _ _ _ _ _ hq).2
  rw [dT (show cg0.ck n ts m ps=0 from h),cond_sp_eq _ _ _ _ _ _ _ _ _ _ _ _ _ _ _ hq,hsv,hse]
  rw [show (phi_sp 1 n (vrow 3 ts) m (vrow 6 ps) false (ByteArray.mk #[]) (ByteArray.mk #[]) false (ByteArray.mk #[]) (ByteArray.mk #[]) n ts m ps).2=(sq0.qn (mxN ts ps (n - 1)),sq0.qs (mxN ts ps (n - 1)),sq0.qd (mxN ts ps (n - 1))) from hr]
  rfl
 ·have hsv:pg0.sv n ts m ps=0:=if_neg h
  have hse:pg0.se n ts m ps=1:=if_neg h
  rw [dF (show ¬ cg0.ck n ts m ps=0 from h),hsv,hse,rat_zero];rfl
theorem eSpeed:Entry Tryz.prog 25 (tSpeed cg0 pg0 sq0):=by
 refine entry_at (by kernel_rfl) (fun args r h=> ?_)
 unfold tSpeed at h
 split at h
 ·rename_i fl n f fl2 m g
  simp only [Option.some.injEq,Prod.mk.injEq,Bool.and_eq_true] at h
  obtain ⟨⟨⟨h1,h2⟩,h3⟩,rfl⟩:=h
  exact ⟨⟨addC 28 (tChk cg0) noC,fun _=>false,LL_sp cond_sp phi_sp noL⟩,10,10,_,_,(meets_none _).add eChk,(LL_sp_ok LOk.none).ok,speed_val n _ m _ (rowV_len 3 n f) (rowV_len 6 m g) h3,ImpL.cons (imp_trj h1 h2) (ImpL.refl _),Imp.refl _⟩
 ·cases h
end
end Go.Proofs.YtdnmkehncpfnnaaGreat.L
namespace Go.Proofs.YtdnmkehncpfnnaaGreat.L
open Go Go.V Go.RowKit Go.Proofs.YtdnmkehncpfnnaaGreat.Sp
open Go.Proofs (Tryz.prog)
noncomputable section
structure Dg where
 dk:Nat→List Value→Nat→List Value→Bool→BA→BA→Bool
 dt:Nat→List Value→Rat→List Value
def dkN (n:Nat) (ts:List Value) (m:Nat) (ps:List Value) (xb:Bool) (xn xd:BA):Bool:=koN n ts m ps&&(okm xn xd&&(decide (ckN n ts m ps=0)&&decide (sq0.ck xb xn xd=0)))
def dg0:Dg where
 dk:=dkN
 dt n ts x:=cells3 n (fun j=>qt ts j+x)
theorem dkN_out {n:Nat} {ts:List Value} {m:Nat} {ps:List Value} {xb:Bool} {xn xd:BA} (h:dkN n ts m ps xb xn xd=true):koN n ts m ps=true∧okm xn xd=true∧ckN n ts m ps=0∧sq0.ck xb xn xd=0:=by
 unfold dkN at h
 rwa [Bool.and_eq_true,Bool.and_eq_true,Bool.and_eq_true,decide_eq_true_eq,decide_eq_true_eq] at h
theorem contF_vrow' (sz:Nat) (vs:List Value):contF (.vals vs) [] 0 sz=vrow sz vs:=by
 funext j q
 show AV.val (vs.getD (0+j*sz+q) undef)=_
 rw [Nat.zero_add];rfl
theorem room_pt' {m:Nat} (h:m≤2000):roomA Tryz.prog m 38=true:=by
 have e:Tryz.prog.bytesOf 38=80:=by kernel_rfl
 unfold roomA
 rw [e,decide_eq_true (show m*80≤140737488355328 by omega),decide_eq_true (show m≤9223372036854775807 by omega)];rfl
theorem allOne_p {n:Nat} {ps:List Value} (hl:ps.length=n*6) (h:∀ j,j < n→okQ ps j=true):(Cont.vals ps).allOne=true:=by
 show ps.all (·.oneCell')=true
 rw [List.all_eq_true]
 intro v hv
 obtain ⟨i,hi,rfl⟩:=List.getElem_of_mem hv
 have hj:i / 6 < n:=by omega
 obtain ⟨⟨k1,k2⟩,_,_⟩:=okQ_out (h _ hj)
 obtain ⟨a1,a2,a3⟩:=isRat_out k1
 obtain ⟨b1,b2,b3⟩:=isRat_out k2
 have e:ps[i]=ps.getD (i / 6*6+i % 6) undef:=by
  rw [Nat.div_add_mod',List.getD_eq_getElem?_getD,List.getElem?_eq_getElem hi];rfl
 rw [e]
 have h6:i % 6=0∨i % 6=1∨i % 6=2∨i % 6=3∨i % 6=4∨i % 6=5:=by omega
 rcases h6 with h6 | h6 | h6 | h6 | h6 | h6 <;> rw [h6]
 ·rw [a1];rfl
 ·rw [a2];rfl
 ·rw [a3];rfl
 ·rw [b1];rfl
 ·rw [b2];rfl
 ·rw [b3];rfl
end
end Go.Proofs.YtdnmkehncpfnnaaGreat.L
