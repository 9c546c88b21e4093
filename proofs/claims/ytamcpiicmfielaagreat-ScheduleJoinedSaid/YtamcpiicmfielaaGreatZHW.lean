import Derived.Test.YtamcpiicmfielaaGreatZHZ
set_option linter.unusedVariables false
set_option linter.unusedSimpArgs false
namespace Go.Proofs.YtamcpiicmfielaaGreat.L
open Go Go.V Go.RowKit Go.Proofs.YtamcpiicmfielaaGreat.Sp
open Go.Proofs (Tryz.prog)
noncomputable section
def CAt (G:Cg) (V:Vg) (Z:Qg):FuncId→TF:=addC 18 (tChk G) (addC 49 (tQCheck Z) (addC 50 (tPlace V Z) noC))
theorem at_call (G:Cg) (V:Vg) (Z:Qg) (n:Nat) (ts:List Value) (m:Nat) (ps:List Value) (xb:Bool) (xn xd:BA):letI q_1:=(rowV (3:Nat) n (vrow (3:Nat) ts));letI q_2:=(rowV (6:Nat) m (vrow (6:Nat) ps));
  (callA Tryz.prog ⟨CAt G V Z,Kall,noL⟩ 10 10 12 [aTrj n ts m ps,w3 xb xn xd]=(bif okV (3:Nat) n (vrow (3:Nat) ts)&&okV (6:Nat) m (vrow (6:Nat) ps)&&G.ko n q_1 m q_2 then (bif !decide (G.ck n q_1 m q_2=(0:Int)) then some (.tup [(.agg [(.val (.bool false)),(.val (.string (ByteArray.mk #[]))),(.val (.string (ByteArray.mk #[]))),(.val (.bool false)),(.val (.string (ByteArray.mk #[]))),(.val (.string (ByteArray.mk #[])))]),(.val (.int .i64 1))]) else (bif Z.ok xn xd then (bif !decide (Z.ck xb xn xd=(0:Int)) then some (.tup [(.agg [(.val (.bool false)),(.val (.string (ByteArray.mk #[]))),(.val (.string (ByteArray.mk #[]))),(.val (.bool false)),(.val (.string (ByteArray.mk #[]))),(.val (.string (ByteArray.mk #[])))]),(.val (.int .i64 1))]) else (bif okV (3:Nat) n (vrow (3:Nat) ts)&&okV (6:Nat) m (vrow (6:Nat) ps)&&V.pk n q_1 m q_2 xn xd then some (.tup [(.agg [(.val (.bool (Z.qn (V.plx n q_1 q_2 (Z.qv xb xn xd))))),(.val (.string (Z.qs (V.plx n q_1 q_2 (Z.qv xb xn xd))))),(.val (.string (Z.qd (V.plx n q_1 q_2 (Z.qv xb xn xd))))),(.val (.bool (Z.qn (V.ply n q_1 q_2 (Z.qv xb xn xd))))),(.val (.string (Z.qs (V.ply n q_1 q_2 (Z.qv xb xn xd))))),(.val (.string (Z.qd (V.ply n q_1 q_2 (Z.qv xb xn xd)))))]),(.val (.int .i64 0))]) else none)) else none)) else none)):=by kernel_rfl
structure Ag where
 ak:Nat→List Value→Nat→List Value→BA→BA→Bool
 ae:Nat→List Value→Nat→List Value→Bool→BA→BA→Int
 ax:Nat→List Value→Nat→List Value→Bool→BA→BA→Rat
 ay:Nat→List Value→Nat→List Value→Bool→BA→BA→Rat
def atE (n:Nat) (ts:List Value) (m:Nat) (ps:List Value) (xb:Bool) (xn xd:BA):Int:=if ckN n ts m ps=0∧sq0.ck xb xn xd=0 then 0 else 1
def ag0:Ag where
 ak n ts m ps xn xd:=koN n ts m ps&&okm xn xd
 ae:=atE
 ax n ts m ps xb xn xd:=if atE n ts m ps xb xn xd=0 then pl1 n ts (px ps) (sq0.qv xb xn xd) else 0
 ay n ts m ps xb xn xd:=if atE n ts m ps xb xn xd=0 then pl1 n ts (py ps) (sq0.qv xb xn xd) else 0
def tAt (A:Ag) (Z:Qg):TF:=fun args=>match args with
 | [.agg [.lst _ 27 n f, .lst _ 35 m g], .agg [.val (.bool xb), .val (.string xn), .val (.string xd)]]=>some (okV 3 n f&&okV 6 m g&&A.ak n (rowV 3 n f) m (rowV 6 m g) xn xd, .tup [Z.pair (A.ax n (rowV 3 n f) m (rowV 6 m g) xb xn xd) (A.ay n (rowV 3 n f) m (rowV 6 m g) xb xn xd), .val (.int .i64 (A.ae n (rowV 3 n f) m (rowV 6 m g) xb xn xd))])
 | _=>none
theorem ckN_ok {n:Nat} {ts:List Value} {m:Nat} {ps:List Value} (h:ckN n ts m ps=0):n=m∧0 < n∧n≤1000∧∀ j,j < n→ckE ts ps j=0:=by
 unfold ckN at h
 split at h
 ·cases h
 ·rename_i h1
  split at h
  ·cases h
  ·split at h
   ·cases h
   ·exact ⟨Classical.not_not.1 h1,by omega,by omega,ckL_ok h⟩
theorem plOk_of {n:Nat} {ts:List Value} {m:Nat} {ps:List Value} (ho:koN n ts m ps=true) (h:ckN n ts m ps=0):PlOk n ts m ps:=by
 obtain ⟨rfl,h1,h2,h3⟩:=ckN_ok h
 obtain ⟨hx,hp⟩:=koN_out ho
 refine ⟨rfl,h1, ⟨h2,hx,fun j hj=> ?_⟩,hp,fun j hj=>(ckE_go (h3 j hj)).2.1⟩
 have:=(ckE_go (h3 (j+1) hj)).2.2 (by omega)
 rw [cq_ge,Nat.add_sub_cancel] at this
 exact Classical.not_not.1 this
theorem CAt_ok:Meets Tryz.prog (CAt cg0 vg0 sq0):=(((meets_none _).add ePlace).add eQCheck).add eChk
theorem pair_zero:sq0.pair 0 0= .agg [.val (.bool false), .val (.string (ByteArray.mk #[])), .val (.string (ByteArray.mk #[])), .val (.bool false), .val (.string (ByteArray.mk #[])), .val (.string (ByteArray.mk #[]))]:=by
 unfold Qg.pair
 rw [qn_zero,qs_zero,qd_zero]
theorem at_val (n:Nat) (ts:List Value) (m:Nat) (ps:List Value) (xb:Bool) (xn xd:BA) (l1:ts.length=n*3) (l2:ps.length=m*6) (hk:ag0.ak n ts m ps xn xd=true):
  callA Tryz.prog ⟨CAt cg0 vg0 sq0,Kall,noL⟩ 10 10 12 [aTrj n ts m ps,w3 xb xn xd]=some (.tup [sq0.pair (ag0.ax n ts m ps xb xn xd) (ag0.ay n ts m ps xb xn xd), .val (.int .i64 (ag0.ae n ts m ps xb xn xd))]):=by
 have hk:(koN n ts m ps&&okm xn xd)=true:=hk
 rw [Bool.and_eq_true] at hk
 obtain ⟨k1,k2⟩:=hk
 rw [at_call,rowV_vrow l1,rowV_vrow l2,okV_vrow,okV_vrow,show cg0.ko n ts m ps=true from k1,okm_q k2]
 by_cases h:atE n ts m ps xb xn xd=0
 ·have hax:ag0.ax n ts m ps xb xn xd=pl1 n ts (px ps) (sq0.qv xb xn xd):=if_pos h
  have hay:ag0.ay n ts m ps xb xn xd=pl1 n ts (py ps) (sq0.qv xb xn xd):=if_pos h
  have hae:ag0.ae n ts m ps xb xn xd=0:=h
  rw [hax,hay,hae]
  unfold atE at h
  split at h
  ·rename_i hc
   have hpk:vg0.pk n ts m ps xn xd=true:=by
    show pkN n ts m ps xn xd=true
    unfold pkN
    rw [@decide_eq_true _ (Classical.propDecidable _) (plOk_of k1 hc.1),k2];rfl
   rw [dT (show cg0.ck n ts m ps=0 from hc.1),dT hc.2,hpk];rfl
  ·cases h
 ·have hax:ag0.ax n ts m ps xb xn xd=0:=if_neg h
  have hay:ag0.ay n ts m ps xb xn xd=0:=if_neg h
  have hae:ag0.ae n ts m ps xb xn xd=1:=by
   show atE n ts m ps xb xn xd=1
   unfold atE at h ⊢
   split <;> rename_i hc
   ·rw [if_pos hc] at h;exact absurd rfl h
   ·rfl
  rw [hax,hay,hae,pair_zero]
  by_cases h1:ckN n ts m ps=0
  ·by_cases h2:sq0.ck xb xn xd=0
   ·exact absurd (by unfold atE;rw [if_pos ⟨h1,h2⟩]) h
   ·rw [dT (show cg0.ck n ts m ps=0 from h1),dF h2];rfl
  ·rw [dF (show ¬ cg0.ck n ts m ps=0 from h1)];rfl
theorem eAt:Entry Tryz.prog 12 (tAt ag0 sq0):=by
 refine entry_at (by kernel_rfl) (fun args r h=> ?_)
 unfold tAt at h
 split at h
 ·rename_i fl n f fl2 m g xb xn xd
  simp only [Option.some.injEq,Prod.mk.injEq,Bool.and_eq_true] at h
  obtain ⟨⟨⟨h1,h2⟩,h3⟩,rfl⟩:=h
  exact ⟨⟨CAt cg0 vg0 sq0,Kall,noL⟩,10,10,_,_,CAt_ok,loops_none,at_val n _ m _ xb xn xd (rowV_len 3 n f) (rowV_len 6 m g) h3,ImpL.cons (imp_trj h1 h2) (ImpL.refl _),Imp.refl _⟩
 ·cases h
end
end Go.Proofs.YtamcpiicmfielaaGreat.L
namespace Go.Proofs.YtamcpiicmfielaaGreat.L
open Go Go.V Go.RowKit Go.Proofs.YtamcpiicmfielaaGreat.Sp
open Go.Proofs (Tryz.prog)
noncomputable section
def grT (ts:List Value) (j:Nat):Bool:=hg0.gr (asS (ts.getD (j*3+1) undef)) (asS (ts.getD (j*3+2) undef))
abbrev p_gt:List Bool:= [false,true,false,true]
def sh_gt (r:Bool) (i:Int) (n:Nat) (ts:List Value) (m:Nat) (ps:List Value):List AV:=slots 38 [(1, .ptr 0 0),(2, .val (.bool r)),(3, .val (.int .i64 i))]
def hp_gt (r:Bool) (i:Int) (n:Nat) (ts:List Value) (m:Nat) (ps:List Value):Hp:= [.row (.cells [.lst false 27 n (vrow 3 ts), .lst false 35 m (vrow 6 ps)]) 25 .live]
theorem body_gt:subC Tryz.prog 7 p_gt=some (.loop (lb 7 p_gt)):=by kernel_rfl
theorem code_gt:subC Tryz.prog 7 (false :: p_gt)=some (lb 7 p_gt):=by kernel_rfl
theorem round_gt (K:Hg) (r:Bool) (i:Int) (n:Nat) (ts:List Value) (m:Nat) (ps:List Value):roundA Tryz.prog (EGp K) 7 [1,2,3] (lb 7 p_gt) (false :: p_gt) (sh_gt r i n ts m ps) (hp_gt r i n ts m ps)=
  (bif decide (i < (↑n:Int)) then (bif decide ((0:Int)≤i)&&decide (i < (↑n:Int)) then (bif isRat (ts.getD (i.toNat*(3:Nat)+(0:Nat)) undef) (ts.getD (i.toNat*(3:Nat)+(1:Nat)) undef) (ts.getD (i.toNat*(3:Nat)+(2:Nat)) undef)&&true then (bif K.gr (asS (ts.getD (i.toNat*(3:Nat)+(1:Nat)) undef)) (asS (ts.getD (i.toNat*(3:Nat)+(2:Nat)) undef)) then some (.ret,slots 38 [(1,(.ptr 0 0)),(2,(.val (.bool true))),(3,(.val (.int .i64 i)))], [(.row (.cells [(.lst false 27 n (vrow (3:Nat) ts)),(.lst false 35 m (vrow (6:Nat) ps))]) 25 .live)]) else (bif inR IntKind.i64 (i+(1:Int)) then some (.normal,slots 38 [(1,(.ptr 0 0)),(2,(.val (.bool r))),(3,(.val (.int .i64 (i+(1:Int)))))], [(.row (.cells [(.lst false 27 n (vrow (3:Nat) ts)),(.lst false 35 m (vrow (6:Nat) ps))]) 25 .live)]) else none)) else none) else none) else some ((.exit 0),slots 38 [(1,(.ptr 0 0)),(2,(.val (.bool r))),(3,(.val (.int .i64 i)))], [(.row (.cells [(.lst false 27 n (vrow (3:Nat) ts)),(.lst false 35 m (vrow (6:Nat) ps))]) 25 .live)])):=by kernel_rfl
theorem step_gt {r:Bool} {i:Int} {n:Nat} {ts:List Value} {m:Nat} {ps:List Value} {e:Ex} {T:List AV} {H:Hp} (h:roundA Tryz.prog (EGp hg0) 7 [1,2,3] (lb 7 p_gt) (false :: p_gt) (sh_gt r i n ts m ps) (hp_gt r i n ts m ps)=some (e,T,H)):V.Ends Tryz.prog false 0 0 (lb 7 p_gt) (sh_gt r i n ts m ps) (hp_gt r i n ts m ps) e T H:=
 round_ends ((meets_none _).add eGreat.gR) loops_none mixed code_gt h
section
variable {r : Bool} {n m : Nat} {ts ps : List Value}
theorem gt_step (i:Nat) (hi:i < n) (hn:n≤9223372036854775807) (h:okT ts i=true) (hg:grT ts i=false):V.Ends Tryz.prog false 0 0 (lb 7 p_gt) (sh_gt r i n ts m ps) (hp_gt r i n ts m ps) .normal (sh_gt r ((i+1:Nat):Int) n ts m ps) (hp_gt r ((i+1:Nat):Int) n ts m ps):=by
 have hr:=round_gt hg0 r i n ts m ps
 unfold okT at h
 unfold grT at hg
 simp only [Int.toNat_natCast] at hr
 rw [dT (show (i:Int) < (n:Int) by omega),dT (show (0:Int)≤(i:Int) by omega),h,hg,i64T (z:=(i:Int)+1) (by omega)] at hr
 exact step_gt hr
theorem gt_stop (i:Nat) (hi:i < n) (h:okT ts i=true) (hg:grT ts i=true):V.Ends Tryz.prog false 0 0 (lb 7 p_gt) (sh_gt r i n ts m ps) (hp_gt r i n ts m ps) .ret (sh_gt true i n ts m ps) (hp_gt true i n ts m ps):=by
 have hr:=round_gt hg0 r i n ts m ps
 unfold okT at h
 unfold grT at hg
 simp only [Int.toNat_natCast] at hr
 rw [dT (show (i:Int) < (n:Int) by omega),dT (show (0:Int)≤(i:Int) by omega),h,hg] at hr
 exact step_gt hr
theorem gt_go (hn:n≤9223372036854775807) (h:∀ j,j < n→okT ts j=true∧grT ts j=false) (k:Nat):∀ i:Nat,n=i+k→LoopTo Tryz.prog (lb 7 p_gt) (sh_gt r i n ts m ps) (hp_gt r i n ts m ps) (.exit 0) (sh_gt r n n ts m ps) (hp_gt r n n ts m ps):=by
 induction k with
 | zero=>
  intro i hi
  have:i=n:=by omega
  subst this
  refine .last (step_gt ?_) (by intro h;cases h)
  rw [round_gt,dF (show ¬ ((i:Nat):Int) < (i:Int) by omega)]
  rfl
 | succ k ih=>
  intro i hi
  obtain ⟨h1,h2⟩:=h i (by omega)
  exact .more (gt_step i (by omega) hn h1 h2) (ih (i+1) (by omega))
theorem gu_go (hn:n≤9223372036854775807) (h:∀ j,j < n→okT ts j=true) (q:Nat) (hq:q < n) (hg:∀ j,j < q→grT ts j=false) (hb:grT ts q=true) (k:Nat):∀ i:Nat,q=i+k→LoopTo Tryz.prog (lb 7 p_gt) (sh_gt r i n ts m ps) (hp_gt r i n ts m ps) .ret (sh_gt true q n ts m ps) (hp_gt true q n ts m ps):=by
 induction k with
 | zero=>
  intro i hi
  have:i=q:=by omega
  subst this
  exact .last (gt_stop i hq (h i hq) hb) (by intro h;cases h)
 | succ k ih=>
  intro i hi
  exact .more (gt_step i (by omega) hn (h i (by omega)) (hg i (by omega))) (ih (i+1) (by omega))
end
def pre_gt (r:Bool) (i:Int) (n:Nat) (ts:List Value) (m:Nat) (ps:List Value):Prop:=i=0∧n≤9223372036854775807∧∀ j,j < n→okT ts j=true∧grT ts j=false
def post_gt (r:Bool) (i:Int) (n:Nat) (ts:List Value) (m:Nat) (ps:List Value) (ρ:Int):Prop:=True
theorem loop_gt (r:Bool) (i:Int) (n:Nat) (ts:List Value) (m:Nat) (ps:List Value) (h:pre_gt r i n ts m ps):∃ ρ:Int,LoopTo Tryz.prog (lb 7 p_gt) (sh_gt r i n ts m ps) (hp_gt r i n ts m ps) (.exit 0) (sh_gt r ρ n ts m ps) (hp_gt r ρ n ts m ps)∧post_gt r i n ts m ps ρ:=by
 obtain ⟨rfl,hn,h⟩:=h
 exact ⟨_,gt_go hn h _ 0 (Nat.zero_add _).symm,trivial⟩
def told_gt (κ:Bool→Int→Nat→List Value→Nat→List Value→Bool) (φ:Bool→Int→Nat→List Value→Nat→List Value→Int) (T:List AV) (H:Hp):Option (Bool×Ex×List AV×Hp):=
 match lget T 1,lget T 2,lget T 3,H with
 | .ptr 0 0, .val (.bool r), .val (.int .i64 i), [.row (.cells [.lst false 27 n f_ts, .lst false 35 m f_ps]) 25 .live]=>bif T.length==38 then some (okV 3 n f_ts&&okV 6 m f_ps&&κ r i n (rowV 3 n f_ts) m (rowV 6 m f_ps), .exit 0,sh_gt r ((φ r i n (rowV 3 n f_ts) m (rowV 6 m f_ps))) n (rowV 3 n f_ts) m (rowV 6 m f_ps),hp_gt r ((φ r i n (rowV 3 n f_ts) m (rowV 6 m f_ps))) n (rowV 3 n f_ts) m (rowV 6 m f_ps)) else none
 | _,_,_,_=>none
abbrev KT_gt:Type:=Bool→Int→Nat→List Value→Nat→List Value→Bool
abbrev FT_gt:Type:=Bool→Int→Nat→List Value→Nat→List Value→Int
def LL_gt (κ:KT_gt) (φ:FT_gt) (L:LTab):LTab:=addLn 0 7 p_gt [1,2,3] (told_gt κ φ) L
def phi_gt (r:Bool) (i:Int) (n:Nat) (ts:List Value) (m:Nat) (ps:List Value):Int:=Classical.epsilon fun ρ=>LoopTo Tryz.prog (lb 7 p_gt) (sh_gt r i n ts m ps) (hp_gt r i n ts m ps) (.exit 0) (sh_gt r (ρ) n ts m ps) (hp_gt r (ρ) n ts m ps)∧post_gt r i n ts m ps ρ
theorem phi_gt_spec (r:Bool) (i:Int) (n:Nat) (ts:List Value) (m:Nat) (ps:List Value) (h:pre_gt r i n ts m ps):LoopTo Tryz.prog (lb 7 p_gt) (sh_gt r i n ts m ps) (hp_gt r i n ts m ps) (.exit 0) (sh_gt r ((phi_gt r i n ts m ps)) n ts m ps) (hp_gt r ((phi_gt r i n ts m ps)) n ts m ps)∧post_gt r i n ts m ps (phi_gt r i n ts m ps):=Classical.epsilon_spec (loop_gt r i n ts m ps h)
def cond_gt (r:Bool) (i:Int) (n:Nat) (ts:List Value) (m:Nat) (ps:List Value):Bool:= @decide (pre_gt r i n ts m ps) (Classical.propDecidable _)
theorem cond_gt_eq (r:Bool) (i:Int) (n:Nat) (ts:List Value) (m:Nat) (ps:List Value) (h:pre_gt r i n ts m ps):cond_gt r i n ts m ps=true:= @decide_eq_true _ (Classical.propDecidable _) h
theorem told_gt_ok (T:List AV) (H:Hp) (e:Ex) (T1:List AV) (H1:Hp) (h:told_gt cond_gt phi_gt T H=some (true,e,T1,H1)):V.Ends Tryz.prog false 0 0 (.loop (lb 7 p_gt)) T H e T1 H1:=by
 unfold told_gt at h
 split at h
 ·rename_i r i n f_ts m f_ps h1 h2 h3
  rw [Bool.cond_eq_ite] at h
  split at h
  ·rename_i hlen
   rw [beq_iff_eq] at hlen
   simp only [Option.some.injEq,Prod.mk.injEq,Bool.and_eq_true,decide_eq_true_eq] at h
   obtain ⟨⟨⟨k1,k2⟩,k3⟩,rfl,rfl,rfl⟩:=h
   have kc:= @of_decide_eq_true _ (Classical.propDecidable _) k3
   refine Ends.pre (Ends.preH (phi_gt_spec r i n (rowV 3 n f_ts) m (rowV 6 m f_ps) kc).1.ends (sameH.cons ⟨⟨rfl,fun _ _ _ _ _ hh=>rel_trj (by kernel_rfl) (by kernel_rfl) k1 k2 hh⟩,rfl,rfl⟩ sameH.nil)) (fun α B w D ys hr=>slots_rel hlen (fun p hp y hy=> ?_) hr)
   simp only [List.mem_cons,List.not_mem_nil,or_false] at hp
   rcases hp with rfl | rfl | rfl
   ·rw [h1] at hy;exact hy
   ·rw [h2] at hy;exact hy
   ·rw [h3] at hy;exact hy
  ·cases h
 ·cases h
theorem LL_gt_ok {L:LTab} (h:LOk Tryz.prog L):LOk Tryz.prog (LL_gt cond_gt phi_gt L):=h.add2n body_gt told_gt_ok
abbrev p_gu:List Bool:= [false,true,false,true]
def sh_gu (r:Bool) (i:Int) (n:Nat) (ts:List Value) (m:Nat) (ps:List Value):List AV:=slots 38 [(1, .ptr 0 0),(2, .val (.bool r)),(3, .val (.int .i64 i))]
def hp_gu (r:Bool) (i:Int) (n:Nat) (ts:List Value) (m:Nat) (ps:List Value):Hp:= [.row (.cells [.lst false 27 n (vrow 3 ts), .lst false 35 m (vrow 6 ps)]) 25 .live]
theorem body_gu:subC Tryz.prog 7 p_gu=some (.loop (lb 7 p_gu)):=by kernel_rfl
def pre_gu (r:Bool) (i:Int) (n:Nat) (ts:List Value) (m:Nat) (ps:List Value):Prop:=i=0∧n≤9223372036854775807∧(∀ j,j < n→okT ts j=true)∧∃ q,q < n∧(∀ j,j < q→grT ts j=false)∧grT ts q=true
def post_gu (r:Bool) (i:Int) (n:Nat) (ts:List Value) (m:Nat) (ps:List Value) (ρ:Bool×Int):Prop:=ρ.1=true
theorem loop_gu (r:Bool) (i:Int) (n:Nat) (ts:List Value) (m:Nat) (ps:List Value) (h:pre_gu r i n ts m ps):∃ ρ:Bool×Int,LoopTo Tryz.prog (lb 7 p_gu) (sh_gu r i n ts m ps) (hp_gu r i n ts m ps) .ret (sh_gu ρ.1 ρ.2 n ts m ps) (hp_gu ρ.1 ρ.2 n ts m ps)∧post_gu r i n ts m ps ρ:=by
 obtain ⟨rfl,hn,h,q,hq,hg,hb⟩:=h
 exact ⟨(true,(q:Int)),gu_go hn h q hq hg hb q 0 (by omega),rfl⟩
def told_gu (κ:Bool→Int→Nat→List Value→Nat→List Value→Bool) (φ:Bool→Int→Nat→List Value→Nat→List Value→Bool×Int) (T:List AV) (H:Hp):Option (Bool×Ex×List AV×Hp):=
 match lget T 1,lget T 2,lget T 3,H with
 | .ptr 0 0, .val (.bool r), .val (.int .i64 i), [.row (.cells [.lst false 27 n f_ts, .lst false 35 m f_ps]) 25 .live]=>bif T.length==38 then some (okV 3 n f_ts&&okV 6 m f_ps&&κ r i n (rowV 3 n f_ts) m (rowV 6 m f_ps), .ret,sh_gu ((φ r i n (rowV 3 n f_ts) m (rowV 6 m f_ps)).1) ((φ r i n (rowV 3 n f_ts) m (rowV 6 m f_ps)).2) n (rowV 3 n f_ts) m (rowV 6 m f_ps),hp_gu ((φ r i n (rowV 3 n f_ts) m (rowV 6 m f_ps)).1) ((φ r i n (rowV 3 n f_ts) m (rowV 6 m f_ps)).2) n (rowV 3 n f_ts) m (rowV 6 m f_ps)) else none
 | _,_,_,_=>none
abbrev KT_gu:Type:=Bool→Int→Nat→List Value→Nat→List Value→Bool
abbrev FT_gu:Type:=Bool→Int→Nat→List Value→Nat→List Value→Bool×Int
def LL_gu (κ:KT_gu) (φ:FT_gu) (L:LTab):LTab:=addLn 0 7 p_gu [1,2,3] (told_gu κ φ) L
def phi_gu (r:Bool) (i:Int) (n:Nat) (ts:List Value) (m:Nat) (ps:List Value):Bool×Int:=Classical.epsilon fun ρ=>LoopTo Tryz.prog (lb 7 p_gu) (sh_gu r i n ts m ps) (hp_gu r i n ts m ps) (.ret) (sh_gu (ρ.1) (ρ.2) n ts m ps) (hp_gu (ρ.1) (ρ.2) n ts m ps)∧post_gu r i n ts m ps ρ
theorem phi_gu_spec (r:Bool) (i:Int) (n:Nat) (ts:List Value) (m:Nat) (ps:List Value) (h:pre_gu r i n ts m ps):LoopTo Tryz.prog (lb 7 p_gu) (sh_gu r i n ts m ps) (hp_gu r i n ts m ps) (.ret) (sh_gu ((phi_gu r i n ts m ps).1) ((phi_gu r i n ts m ps).2) n ts m ps) (hp_gu ((phi_gu r i n ts m ps).1) ((phi_gu r i n ts m ps).2) n ts m ps)∧post_gu r i n ts m ps (phi_gu r i n ts m ps):=Classical.epsilon_spec (loop_gu r i n ts m ps h)
def cond_gu (r:Bool) (i:Int) (n:Nat) (ts:List Value) (m:Nat) (ps:List Value):Bool:= @decide (pre_gu r i n ts m ps) (Classical.propDecidable _)
theorem cond_gu_eq (r:Bool) (i:Int) (n:Nat) (ts:List Value) (m:Nat) (ps:List Value) (h:pre_gu r i n ts m ps):cond_gu r i n ts m ps=true:= @decide_eq_true _ (Classical.propDecidable _) h
theorem told_gu_ok (T:List AV) (H:Hp) (e:Ex) (T1:List AV) (H1:Hp) (h:told_gu cond_gu phi_gu T H=some (true,e,T1,H1)):V.Ends Tryz.prog false 0 0 (.loop (lb 7 p_gu)) T H e T1 H1:=by
 unfold told_gu at h
 split at h
 ·rename_i r i n f_ts m f_ps h1 h2 h3
  rw [Bool.cond_eq_ite] at h
  split at h
  ·rename_i hlen
   rw [beq_iff_eq] at hlen
   simp only [Option.some.injEq,Prod.mk.injEq,Bool.and_eq_true,decide_eq_true_eq] at h
   obtain ⟨⟨⟨k1,k2⟩,k3⟩,rfl,rfl,rfl⟩:=h
   have kc:= @of_decide_eq_true _ (Classical.propDecidable _) k3
   refine Ends.pre (Ends.preH (phi_gu_spec r i n (rowV 3 n f_ts) m (rowV 6 m f_ps) kc).1.ends (sameH.cons ⟨⟨rfl,fun _ _ _ _ _ hh=>rel_trj (by kernel_rfl) (by kernel_rfl) k1 k2 hh⟩,rfl,rfl⟩ sameH.nil)) (fun α B w D ys hr=>slots_rel hlen (fun p hp y hy=> ?_) hr)
   simp only [List.mem_cons,List.not_mem_nil,or_false] at hp
   rcases hp with rfl | rfl | rfl
   ·rw [h1] at hy;exact hy
   ·rw [h2] at hy;exact hy
   ·rw [h3] at hy;exact hy
  ·cases h
 ·cases h
theorem LL_gu_ok {L:LTab} (h:LOk Tryz.prog L):LOk Tryz.prog (LL_gu cond_gu phi_gu L):=h.add2n body_gu told_gu_ok
structure Gg where
 gt:Nat→List Value→Nat→List Value→Bool
 go:Nat→List Value→Nat→List Value→Bool
def gtN (n:Nat) (ts:List Value) (m:Nat) (ps:List Value):Bool:=(List.range n).any (grT ts) ||(decide (10 < n)&&decide (n≤1000) ||decide (1005 < n)) ||gpN m ps
def gg0:Gg where
 gt:=gtN
 go n ts m ps:=okTs n ts&&okpN m ps
def tGT (G:Gg):TF:=fun args=>match args with
 | [.agg [.lst _ 27 n f, .lst _ 35 m g]]=>some (okV 3 n f&&okV 6 m g&&G.go n (rowV 3 n f) m (rowV 6 m g), .val (.bool (G.gt n (rowV 3 n f) m (rowV 6 m g))))
 | _=>none
def CGt (T:Tg):FuncId→TF:=addC 36 (tGP T) noC
theorem gt_call (T:Tg) (κ:KT_gt) (φ:FT_gt) (n:Nat) (ts:List Value) (m:Nat) (ps:List Value):callA Tryz.prog ⟨CGt T,Kall,LL_gt κ φ noL⟩ 10 10 7 [.agg [.lst false 27 n (vrow 3 ts), .lst false 35 m (vrow 6 ps)]]=
  (bif okV (3:Nat) n (vrow (3:Nat) ts)&&okV (6:Nat) m (vrow (6:Nat) ps)&&κ false (0:Int) n (rowV (3:Nat) n (vrow (3:Nat) ts)) m (rowV (6:Nat) m (vrow (6:Nat) ps)) then (bif decide ((10:Int) < (↑n:Int)) then (bif decide ((↑n:Int)≤(1000:Int)) then some (.val (.bool true)) else (bif decide ((1005:Int) < (↑n:Int)) then some (.val (.bool true)) else (bif okV (6:Nat) m (vrow (6:Nat) (rowV (6:Nat) m (vrow (6:Nat) ps)))&&T.okp m (rowV (6:Nat) m (vrow (6:Nat) (rowV (6:Nat) m (vrow (6:Nat) ps)))) then some (.val (.bool (T.gp m (rowV (6:Nat) m (vrow (6:Nat) (rowV (6:Nat) m (vrow (6:Nat) ps))))))) else none))) else (bif decide ((1005:Int) < (↑n:Int)) then some (.val (.bool true)) else (bif okV (6:Nat) m (vrow (6:Nat) (rowV (6:Nat) m (vrow (6:Nat) ps)))&&T.okp m (rowV (6:Nat) m (vrow (6:Nat) (rowV (6:Nat) m (vrow (6:Nat) ps)))) then some (.val (.bool (T.gp m (rowV (6:Nat) m (vrow (6:Nat) (rowV (6:Nat) m (vrow (6:Nat) ps))))))) else none))) else none):=by kernel_rfl
theorem gu_call (T:Tg) (κ:KT_gu) (φ:FT_gu) (n:Nat) (ts:List Value) (m:Nat) (ps:List Value):callA Tryz.prog ⟨CGt T,Kall,LL_gu κ φ noL⟩ 10 10 7 [.agg [.lst false 27 n (vrow 3 ts), .lst false 35 m (vrow 6 ps)]]=
  (bif okV (3:Nat) n (vrow (3:Nat) ts)&&okV (6:Nat) m (vrow (6:Nat) ps)&&κ false (0:Int) n (rowV (3:Nat) n (vrow (3:Nat) ts)) m (rowV (6:Nat) m (vrow (6:Nat) ps)) then some (.val (.bool ((φ false (0:Int) n (rowV (3:Nat) n (vrow (3:Nat) ts)) m (rowV (6:Nat) m (vrow (6:Nat) ps))).fst))) else none):=by kernel_rfl
theorem CGt_ok:Meets Tryz.prog (CGt tg0):=(meets_none _).add eGP
theorem eGT:Entry Tryz.prog 7 (tGT gg0):=by
 refine entry_at (by kernel_rfl) (fun args r h=> ?_)
 unfold tGT at h
 split at h
 ·rename_i fl n f fl2 m g
  simp only [Option.some.injEq,Prod.mk.injEq,Bool.and_eq_true] at h
  obtain ⟨⟨⟨h1,h2⟩,h3⟩,rfl⟩:=h
  have hI:ImpL [.agg [.lst fl 27 n f, .lst fl2 35 m g]] [.agg [.lst false 27 n (vrow 3 (rowV 3 n f)), .lst false 35 m (vrow 6 (rowV 6 m g))]]:=
   ImpL.cons (Imp.agg (ImpL.cons (Imp.row (by kernel_rfl) h1) (ImpL.cons (Imp.row (by kernel_rfl) h2) (ImpL.refl _)))) (ImpL.refl _)
  have l1:=rowV_len 3 n f
  have l2:=rowV_len 6 m g
  generalize rowV 3 n f=ts at*
  generalize rowV 6 m g=ps at*
  have h3:(okTs n ts&&okpN m ps)=true:=h3
  rw [Bool.and_eq_true] at h3
  obtain ⟨k1,k2⟩:=h3
  obtain ⟨hn,ht⟩:=okTs_out k1
  by_cases hg:(List.range n).any (grT ts)=true
  ·have hq:pre_gu false 0 n ts m ps:= ⟨rfl,hn,ht,first_of n hg⟩
   refine ⟨⟨CGt tg0,Kall,LL_gu cond_gu phi_gu noL⟩,10,10,_,_,CGt_ok,(LL_gu_ok LOk.none).ok, ?_,hI,Imp.refl _⟩
   have e:gg0.gt n ts m ps=true:=by show gtN n ts m ps=true;unfold gtN;rw [hg];rfl
   rw [gu_call,okV_vrow,okV_vrow,rowV_vrow l1,rowV_vrow l2,cond_gu_eq _ _ _ _ _ _ hq,e,show (phi_gu false 0 n ts m ps).fst=true from (phi_gu_spec _ _ _ _ _ _ hq).2];rfl
  ·have hq:pre_gt false 0 n ts m ps:= ⟨rfl,hn,fun j hj=> ⟨ht j hj,none_lt hg hj⟩⟩
   refine ⟨⟨CGt tg0,Kall,LL_gt cond_gt phi_gt noL⟩,10,10,_,_,CGt_ok,(LL_gt_ok LOk.none).ok, ?_,hI,Imp.refl _⟩
   have e:gg0.gt n ts m ps=((decide (10 < n)&&decide (n≤1000) ||decide (1005 < n)) ||tg0.gp m ps):=by show gtN n ts m ps=_;unfold gtN;rw [Bool.eq_false_iff.2 hg];rfl
   rw [gt_call]
   simp only [okV_vrow,rowV_vrow l1,rowV_vrow l2,cond_gt_eq _ _ _ _ _ _ hq,e,show tg0.okp m ps=true from k2,Bool.and_self,cond_true]
   by_cases h5:1005 < n
   ·rw [decide_eq_true h5,dT (show (1005:Int) < (n:Int) by omega),dT (show (10:Int) < (n:Int) by omega),dF (show ¬ (n:Int)≤1000 by omega),Bool.or_true];rfl
   ·rw [decide_eq_false h5,dF (show ¬ (1005:Int) < (n:Int) by omega)]
    by_cases h6:10 < n
    ·rw [decide_eq_true h6,dT (show (10:Int) < (n:Int) by omega)]
     by_cases h7:n≤1000
     ·rw [decide_eq_true h7,dT (show (n:Int)≤1000 by omega)];rfl
     ·rw [decide_eq_false h7,dF (show ¬ (n:Int)≤1000 by omega)];rfl
    ·rw [decide_eq_false h6,dF (show ¬ (10:Int) < (n:Int) by omega)];rfl
 ·cases h
end
end Go.Proofs.YtamcpiicmfielaaGreat.L
namespace Go.Proofs.YtamcpiicmfielaaGreat.L
open Go Go.V Go.RowKit Go.Proofs.YtamcpiicmfielaaGreat.Sp
open Go.Proofs (Tryz.prog)
noncomputable section
section
variable {at8 : Int} {r : Bool} {n : Nat} {ts ps : List Value} {xb : Bool} {xn xd : BA}
structure PcOk (n:Nat) (ts ps:List Value):Prop where
 l1:ts.length=n*3
 l2:ps.length=n*6
 ko:koN n ts n ps=true
 ck:ckN n ts n ps=0
theorem PcOk.pl {n:Nat} {ts ps:List Value} (h:PcOk n ts ps):PlOk n ts n ps:=plOk_of h.ko h.ck
end
end
end Go.Proofs.YtamcpiicmfielaaGreat.L
namespace Go.Proofs.YtamcpiicmfielaaGreat.L
open Go Go.V Go.RowKit Go.Proofs.YtamcpiicmfielaaGreat.Sp
open Go.Proofs (Tryz.prog)
noncomputable section
theorem room_rat' {m:Nat} (h:m≤2000):roomA Tryz.prog m 27=true:=by
 have e:Tryz.prog.bytesOf 27=40:=by kernel_rfl
 unfold roomA
 rw [e,decide_eq_true (show m*40≤140737488355328 by omega),decide_eq_true (show m≤9223372036854775807 by omega)];rfl
section
variable {er : Int} {n : Nat} {ts : List Value} {xb : Bool} {xn xd : BA} {pn : Nat} {cs : List Value}
end
section
variable {n : Nat} {ts : List Value} {m : Nat} {ps : List Value} {xb : Bool} {xn xd : BA} {pn : Nat} {pf : Nat → Nat → AV}
end
end
end Go.Proofs.YtamcpiicmfielaaGreat.L
namespace Go.Proofs.YtamcpiicmfielaaGreat.L
open Go Go.V Go.RowKit Go.Proofs.YtamcpiicmfielaaGreat.Sp
open Go.Proofs (Tryz.prog)
noncomputable section
theorem gr12 {n d:BA} (h:hg0.gr n d=false):hg0.ok n d=true:=by
 have h:(decide (12 < n.size) ||decide (12 < d.size))=false:=h
 rw [Bool.or_eq_false_iff,decide_eq_false_iff_not,decide_eq_false_iff_not] at h
 show (decide _&&decide _)=true
 rw [decide_eq_true (show n.size≤12 by omega),decide_eq_true (show d.size≤12 by omega)];rfl
theorem okm_12 {n d:BA} (h:hg0.ok n d=true):okm n d=true:=by
 obtain ⟨h1,h2⟩:=ok12_out h
 unfold okm
 rw [decide_eq_true (show n.size≤1000 by omega),decide_eq_true (show d.size≤1000 by omega)];rfl
structure Small (n:Nat) (ts:List Value) (m:Nat) (ps:List Value):Prop where
 ko:koN n ts m ps=true
 sz:∀ j,j < n→szq (qt ts j)≤12
 lim:n≤10∨1000 < n
 nx:n≤1005
theorem small_of {n:Nat} {ts:List Value} {m:Nat} {ps:List Value} (h1:okTs n ts=true) (h2:okpN m ps=true) (h:¬ gtN n ts m ps=true):Small n ts m ps:=by
 obtain ⟨hn,ht⟩:=okTs_out h1
 obtain ⟨hm,hp⟩:=okpN_out (show tg0.okp m ps=true from h2)
 unfold gtN at h
 rw [Bool.not_eq_true,Bool.or_eq_false_iff,Bool.or_eq_false_iff,Bool.or_eq_false_iff,Bool.and_eq_false_iff,decide_eq_false_iff_not,decide_eq_false_iff_not,decide_eq_false_iff_not] at h
 obtain ⟨⟨g1,g2,g3⟩,g4⟩:=h
 unfold gpN at g4
 rw [Bool.or_eq_false_iff] at g4
 have hx:∀ j,j < n→hg0.ok (asS (ts.getD (j*3+1) undef)) (asS (ts.getD (j*3+2) undef))=true:=fun j hj=>gr12 (none_lt (Bool.eq_false_iff.1 g1) hj)
 refine ⟨?_,fun j hj=>ok12_sz (hx j hj),by omega,by omega⟩
 unfold koN
 rw [Bool.and_eq_true,List.all_eq_true,List.all_eq_true]
 refine ⟨fun j hj=> ?_,fun j hj=> ?_⟩
 ·rw [List.mem_range] at hj
  unfold okX
  rw [ht j hj,okm_12 (hx j hj)];rfl
 ·rw [List.mem_range] at hj
  have h6:=none_lt (Bool.eq_false_iff.1 g4.1) hj
  unfold grP at h6
  rw [Bool.or_eq_false_iff] at h6
  unfold okQ
  rw [hp j hj,gr12 h6.1,gr12 h6.2];rfl
section
variable {n : Nat} {ts : List Value}
end
end
end Go.Proofs.YtamcpiicmfielaaGreat.L
namespace Go.Proofs.YtamcpiicmfielaaGreat.L
open Go Go.V Go.RowKit Go.Proofs.YtamcpiicmfielaaGreat.Sp
open Go.Proofs (Tryz.prog)
noncomputable section
theorem contF_vrow' (sz:Nat) (vs:List Value):contF (.vals vs) [] 0 sz=vrow sz vs:=by
 funext j q
 show AV.val (vs.getD (0+j*sz+q) undef)=_
 rw [Nat.zero_add];rfl
theorem room_pt' {m:Nat} (h:m≤2000):roomA Tryz.prog m 35=true:=by
 have e:Tryz.prog.bytesOf 35=80:=by kernel_rfl
 unfold roomA
 rw [e,decide_eq_true (show m*80≤140737488355328 by omega),decide_eq_true (show m≤9223372036854775807 by omega)];rfl
theorem allOne_p {n:Nat} {ps:List Value} (hl:ps.length=n*6) (h:∀ j,j < n→okQ ps j=true):(Cont.vals ps).allOne=true:=by
 show ps.all (·.oneCell')=true
 rw [List.all_eq_true]
 intro v hv
 obtain ⟨i,hi,rfl⟩:=List.getElem_of_mem hv
 have hj:i / 6 < n:=by omega
 obtain ⟨⟨k1,k2⟩,_,_⟩:=okQ_out (h _ hj)
 obtain ⟨a1,a2,a3⟩:=isRat_out k1
 obtain ⟨b1,b2,b3⟩:=isRat_out k2
 have e:ps[i]=ps.getD (i / 6*6+i % 6) undef:=by
  rw [Nat.div_add_mod',List.getD_eq_getElem?_getD,List.getElem?_eq_getElem hi];rfl
 rw [e]
 have h6:i % 6=0∨i % 6=1∨i % 6=2∨i % 6=3∨i % 6=4∨i % 6=5:=by omega
 rcases h6 with h6 | h6 | h6 | h6 | h6 | h6 <;> rw [h6]
 ·rw [a1];rfl
 ·rw [a2];rfl
 ·rw [a3];rfl
 ·rw [b1];rfl
 ·rw [b2];rfl
 ·rw [b3];rfl
end
end Go.Proofs.YtamcpiicmfielaaGreat.L
