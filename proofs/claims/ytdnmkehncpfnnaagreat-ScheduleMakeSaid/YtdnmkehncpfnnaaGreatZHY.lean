import Derived.Test.YtdnmkehncpfnnaaGreatZHX
import Derived.Test.YtdnmkehncpfnnaaGreatZQA
import Derived.Test.YtdnmkehncpfnnaaGreatZMD
import Derived.Deep.Slices
import Derived.Carry
import Derived.ChangeOld
import Derived.Lib.SmallJoins
set_option linter.unusedVariables false
set_option linter.unusedSimpArgs false
namespace Go.Proofs.YtdnmkehncpfnnaaGreat.L
open Go Go.V Go.RowKit Go.Proofs.YtdnmkehncpfnnaaGreat.Sp
open Go.Proofs (Tryz.prog)
noncomputable section
def CRmC (Z:Qg):FuncId→TF:=addC 48 (tR1 Z fun b n d=> .val (.int .i64 (Z.ck b n d))) (addC 50 (tR1 Z fun b n d=> .val (.int .i64 (Z.sq (Z.qv b n d)))) noC)
theorem rmake_call (Z:Qg) (κ:KT_rk) (φ:FT_rk) (κ':KT_rm) (φ':FT_rm) (n:Nat) (ps:List Value) (sb:Bool) (sn sd:BA) (g:Int):letI q_2:=(vrow (6:Nat) (rowV (6:Nat) n (vrow (6:Nat) ps)));letI q_1:=(φ' n (rowV (6:Nat) n q_2) g (1:Int) sb sn sd (1:Nat) n q_2 [Value.bool false,Value.string (ByteArray.mk #[]),Value.string (ByteArray.mk #[])]);
  (callA Tryz.prog ⟨CRmC Z,Kall,LL_rk κ φ (LL_rm κ' φ' noL)⟩ 10 10 13 [.lst false 38 n (vrow 6 ps),w3 sb sn sd, .val (.int .i64 g)]=(bif decide ((↑n:Int)=(0:Int)) then some (.tup [(.agg [(.val (.slice .none 0 0)),(.val (.slice .none 0 0))]),(.val (.int .i64 11))]) else (bif decide ((1000:Int) < (↑n:Int)) then some (.tup [(.agg [(.val (.slice .none 0 0)),(.val (.slice .none 0 0))]),(.val (.int .i64 4))]) else (bif Z.oks sn sd then (bif !decide (Z.ck sb sn sd=(0:Int)) then some (.tup [(.agg [(.val (.slice .none 0 0)),(.val (.slice .none 0 0))]),(.val (.int .i64 1))]) else (bif okV (6:Nat) n (vrow (6:Nat) ps)&&κ n (rowV (6:Nat) n (vrow (6:Nat) ps)) g (0:Int) (0:Int) sb sn sd then (bif Z.oks sn sd then (bif decide (Z.sq (Z.qv sb sn sd)≤(0:Int)) then some (.tup [(.agg [(.val (.slice .none 0 0)),(.val (.slice .none 0 0))]),(.val (.int .i64 2))]) else (bif decide (g < (1:Int)) then some (.tup [(.agg [(.val (.slice .none 0 0)),(.val (.slice .none 0 0))]),(.val (.int .i64 2))]) else (bif decide ((1000:Int) < g) then some (.tup [(.agg [(.val (.slice .none 0 0)),(.val (.slice .none 0 0))]),(.val (.int .i64 2))]) else (bif okV (6:Nat) n q_2&&true&&κ' n (rowV (6:Nat) n q_2) g (1:Int) sb sn sd (1:Nat) n q_2 [Value.bool false,Value.string (ByteArray.mk #[]),Value.string (ByteArray.mk #[])] then (bif decide ((0:Nat)+q_1.snd.fst*(3:Nat)≤(Cont.vals q_1.snd.snd).len) then some (.tup [(.agg [(.lst false 24 (q_1.snd.fst) (contF (Cont.vals q_1.snd.snd) [] (0:Nat) (3:Nat))),(.lst false 38 n q_2)]),(.val (.int .i64 0))]) else none) else none)))) else none) else none)) else none)))):=by kernel_rfl
theorem rmake_cally (Z:Qg) (κ:KT_ry) (φ:FT_ry) (κ':KT_rm) (φ':FT_rm) (n:Nat) (ps:List Value) (sb:Bool) (sn sd:BA) (g:Int):callA Tryz.prog ⟨CRmC Z,Kall,LL_ry κ φ (LL_rm κ' φ' noL)⟩ 10 10 13 [.lst false 38 n (vrow 6 ps),w3 sb sn sd, .val (.int .i64 g)]=
  (bif decide ((↑n:Int)=(0:Int)) then some (.tup [(.agg [(.val (.slice .none 0 0)),(.val (.slice .none 0 0))]),(.val (.int .i64 11))]) else (bif decide ((1000:Int) < (↑n:Int)) then some (.tup [(.agg [(.val (.slice .none 0 0)),(.val (.slice .none 0 0))]),(.val (.int .i64 4))]) else (bif Z.oks sn sd then (bif !decide (Z.ck sb sn sd=(0:Int)) then some (.tup [(.agg [(.val (.slice .none 0 0)),(.val (.slice .none 0 0))]),(.val (.int .i64 1))]) else (bif okV (6:Nat) n (vrow (6:Nat) ps)&&κ n (rowV (6:Nat) n (vrow (6:Nat) ps)) g (0:Int) (0:Int) sb sn sd then some (.tup [(.agg [(.val (.slice .none 0 0)),(.val (.slice .none 0 0))]),(.val (.int .i64 ((φ n (rowV (6:Nat) n (vrow (6:Nat) ps)) g (0:Int) (0:Int) sb sn sd).fst)))]) else none)) else none))):=by kernel_rfl
end
end Go.Proofs.YtdnmkehncpfnnaaGreat.L
namespace Go.Proofs.YtdnmkehncpfnnaaGreat.L
open Go Go.V Go.RowKit Go.Proofs.YtdnmkehncpfnnaaGreat.Sp
open Go.Proofs (Tryz.prog)
noncomputable section
structure Wg where
 me:Nat→List Value→Bool→BA→BA→Int→Int
 mo:Nat→List Value→BA→BA→Bool
 tm:Nat→List Value→Rat→Int→List Value
def meN (n:Nat) (ps:List Value) (sb:Bool) (sn sd:BA) (g:Int):Int:=
 if n=0 then 11 else if 1000 < n then 4 else if badN n ps=true∨¬ sq0.ck sb sn sd=0 then 1 else if sq0.sq (sq0.qv sb sn sd)≤0∨g < 1∨1000 < g then 2 else 0
def moN (n:Nat) (ps:List Value) (sn sd:BA):Bool:=okqN n ps&&hg0.ok sn sd&&(decide (n≤10) ||decide (1000 < n))
def tmN (n:Nat) (ps:List Value) (s:Rat) (g:Int):List Value:=cells3 n (tmR ps s g)
def wg0:Wg where
 me:=meN
 mo:=moN
 tm:=tmN
def vNil:AV:= .val (.slice none 0 0)
def vTrj (n:Nat) (ts ps:List Value):AV:= .agg [.lst false 24 n (vrow 3 ts), .lst false 38 n (vrow 6 ps)]
def tMkO (W:Wg) (Z:Qg):TF:=fun args=>match args with
 | [.lst _ 38 n f, .agg [.val (.bool sb), .val (.string sn), .val (.string sd)], .val (.int .i64 g)]=>
  some (okV 6 n f&&(W.mo n (rowV 6 n f) sn sd&&decide (W.me n (rowV 6 n f) sb sn sd g=0)), .tup [vTrj n (W.tm n (rowV 6 n f) (Z.qv sb sn sd) g) (rowV 6 n f), .val (.int .i64 0)])
 | _=>none
def tMkE (W:Wg):TF:=fun args=>match args with
 | [.lst _ 38 n f, .agg [.val (.bool sb), .val (.string sn), .val (.string sd)], .val (.int .i64 g)]=>
  some (okV 6 n f&&(W.mo n (rowV 6 n f) sn sd&& !decide (W.me n (rowV 6 n f) sb sn sd g=0)), .tup [.agg [vNil,vNil], .val (.int .i64 (W.me n (rowV 6 n f) sb sn sd g))])
 | _=>none
def vMk (n:Nat) (ps:List Value) (sb:Bool) (sn sd:BA) (g:Int):AV:=bif decide (meN n ps sb sn sd g=0) then .tup [vTrj n (tmN n ps (sq0.qv sb sn sd) g) ps, .val (.int .i64 0)] else .tup [.agg [vNil,vNil], .val (.int .i64 (meN n ps sb sn sd g))]
theorem mk_entries {f:FuncId} (hok:okFn Tryz.prog f=true) (H:∀ (n:Nat) (ps:List Value) (sb:Bool) (sn sd:BA) (g:Int),ps.length=n*6→moN n ps sn sd=true→∃ (E:Env) (u d:Nat),Meets Tryz.prog E.C∧LoopsOk Tryz.prog E∧callA Tryz.prog E u d f [.lst false 38 n (vrow 6 ps),w3 sb sn sd, .val (.int .i64 g)]=some (vMk n ps sb sn sd g)):
  Entry Tryz.prog f (tMkO wg0 sq0)∧Entry Tryz.prog f (tMkE wg0):=by
 constructor
 ·refine entry_at hok (fun args r h=> ?_)
  unfold tMkO at h
  split at h
  ·rename_i fl n fn sb sn sd g
   simp only [Option.some.injEq,Prod.mk.injEq,Bool.and_eq_true,decide_eq_true_eq] at h
   obtain ⟨⟨h1,h2,h3⟩,rfl⟩:=h
   obtain ⟨E,u,d,c1,c2,c3⟩:=H n (rowV 6 n fn) sb sn sd g (rowV_len 6 n fn) h2
   have h3:meN n (rowV 6 n fn) sb sn sd g=0:=h3
   refine ⟨E,u,d,_,_,c1,c2,c3,ImpL.cons (Imp.row (by kernel_rfl) h1) (ImpL.refl _), ?_⟩
   unfold vMk
   rw [decide_eq_true h3]
   exact Imp.refl _
  ·cases h
 ·refine entry_at hok (fun args r h=> ?_)
  unfold tMkE at h
  split at h
  ·rename_i fl n fn sb sn sd g
   simp only [Option.some.injEq,Prod.mk.injEq,Bool.and_eq_true,Bool.not_eq_true',decide_eq_false_iff_not] at h
   obtain ⟨⟨h1,h2,h3⟩,rfl⟩:=h
   obtain ⟨E,u,d,c1,c2,c3⟩:=H n (rowV 6 n fn) sb sn sd g (rowV_len 6 n fn) h2
   have h3:¬ meN n (rowV 6 n fn) sb sn sd g=0:=h3
   refine ⟨E,u,d,_,_,c1,c2,c3,ImpL.cons (Imp.row (by kernel_rfl) h1) (ImpL.refl _), ?_⟩
   unfold vMk
   rw [decide_eq_false h3]
   exact Imp.refl _
  ·cases h
section
variable {n : Nat} {ps : List Value} {sb : Bool} {sn sd : BA} {g : Int}
theorem vMk_err {e:Int} (h:meN n ps sb sn sd g=e) (he:e≠0):vMk n ps sb sn sd g= .tup [.agg [.val (.slice none 0 0), .val (.slice none 0 0)], .val (.int .i64 e)]:=by
 unfold vMk
 rw [h,decide_eq_false he];rfl
theorem vMk_ok (h:meN n ps sb sn sd g=0):vMk n ps sb sn sd g= .tup [.agg [.lst false 24 n (vrow 3 (cells3 n (tmR ps (sq0.qv sb sn sd) g))), .lst false 38 n (vrow 6 ps)], .val (.int .i64 0)]:=by
 unfold vMk
 rw [h];rfl
theorem sq_le {q:Rat} :sq0.sq q≤0↔¬ 0 < q:=by
 show cqn q 0≤0↔_
 unfold cqn
 have this:q < 0→¬ 0 < q:=by grind
 split
 ·rename_i h
  exact ⟨fun _=>this h,fun _=>by omega⟩
 ·split
  ·rename_i h
   exact ⟨fun h2=>by omega,fun h2=>absurd h h2⟩
  ·rename_i h
   exact ⟨fun _=>h,fun _=>by omega⟩
theorem moN_out (h:moN n ps sn sd=true):okqN n ps=true∧hg0.ok sn sd=true∧(n≤10∨1000 < n):=by
 unfold moN at h
 rw [Bool.and_eq_true,Bool.and_eq_true,Bool.or_eq_true,decide_eq_true_eq,decide_eq_true_eq] at h
 exact ⟨h.1.1,h.1.2,h.2⟩
theorem contF_vrow (sz:Nat) (vs:List Value):contF (.vals vs) [] 0 sz=vrow sz vs:=by
 funext j q
 show AV.val (vs.getD (0+j*sz+q) undef)=_
 rw [Nat.zero_add];rfl
theorem room_pt {m:Nat} (h:m≤2000):roomA Tryz.prog m 38=true:=by
 have e:Tryz.prog.bytesOf 38=80:=by kernel_rfl
 unfold roomA
 rw [e,decide_eq_true (show m*80≤140737488355328 by omega),decide_eq_true (show m≤9223372036854775807 by omega)];rfl
end
theorem CMkC_ok:Meets Tryz.prog (CMkC ug0 sq0):=(((meets_none _).add eQSign).add eQCheck).add eCont
theorem allOne_pts {n:Nat} {ps:List Value} (hl:ps.length=n*6) (h:∀ j,j < n→okQ ps j=true):(Cont.vals ps).allOne=true:=by
 show ps.all (·.oneCell')=true
 rw [List.all_eq_true]
 intro v hv
 obtain ⟨i,hi,rfl⟩:=List.getElem_of_mem hv
 have hj:i / 6 < n:=by omega
 obtain ⟨⟨k1,k2⟩,_,_⟩:=okQ_out (h _ hj)
 obtain ⟨a1,a2,a3⟩:=isRat_out k1
 obtain ⟨b1,b2,b3⟩:=isRat_out k2
 have e:ps[i]=ps.getD (i / 6*6+i % 6) undef:=by
  rw [Nat.div_add_mod',List.getD_eq_getElem?_getD,List.getElem?_eq_getElem hi];rfl
 rw [e]
 have h6:i % 6=0∨i % 6=1∨i % 6=2∨i % 6=3∨i % 6=4∨i % 6=5:=by omega
 rcases h6 with h6 | h6 | h6 | h6 | h6 | h6 <;> rw [h6]
 ·rw [a1];rfl
 ·rw [a2];rfl
 ·rw [a3];rfl
 ·rw [b1];rfl
 ·rw [b2];rfl
 ·rw [b3];rfl
theorem meN_good {n:Nat} {ps:List Value} {sb:Bool} {sn sd:BA} {g:Int} (ho:okqN n ps=true) (hs:hg0.ok sn sd=true) (h0:¬ n=0) (h1:n≤10) (hp:0 < sq0.qv sb sn sd) (hg:1≤g∧g≤1000):MkOk n ps sb sn sd g:=
 ⟨h1,(okqN_out (show ug0.okq n ps=true from ho)).2,hs,hp,hg⟩
theorem make_val (n:Nat) (ps:List Value) (sb:Bool) (sn sd:BA) (g:Int) (hl:ps.length=n*6) (ho:moN n ps sn sd=true):callA Tryz.prog ⟨CMkC ug0 sq0,Kall,LL_mk cond_mk phi_mk noL⟩ 10 10 12 [.lst false 38 n (vrow 6 ps),w3 sb sn sd, .val (.int .i64 g)]=some (vMk n ps sb sn sd g):=by
 obtain ⟨o1,o2,o3⟩:=moN_out ho
 rw [make_call,rowV_vrow hl,okV_vrow,ok12_q o2]
 by_cases h0:n=0
 ·rw [vMk_err (e:=11) (if_pos h0) (by decide),dT (show (n:Int)=0 by omega)];rfl
 rw [dF (show ¬ (n:Int)=0 by omega)]
 by_cases h1:1000 < n
 ·rw [vMk_err (e:=4) (by unfold meN;rw [if_neg h0,if_pos h1]) (by decide),dT (show (1000:Int) < n by omega)];rfl
 rw [dF (show ¬ (1000:Int) < n by omega),show ug0.okq n ps=true from o1]
 by_cases hb:ug0.bad n ps=true
 ·rw [vMk_err (e:=1) (by unfold meN;rw [if_neg h0,if_neg h1,if_pos (.inl hb)]) (by decide),hb];rfl
 rw [Bool.eq_false_iff.2 hb]
 by_cases hc:sq0.ck sb sn sd=0
 ·rw [dT hc]
  have hbc:¬ (badN n ps=true∨¬ sq0.ck sb sn sd=0):=fun h=>h.elim hb (fun h=>h hc)
  by_cases hs:sq0.sq (sq0.qv sb sn sd)≤0
  ·rw [vMk_err (e:=2) (by unfold meN;rw [if_neg h0,if_neg h1,if_neg hbc,if_pos (.inl hs)]) (by decide),dT hs];rfl
  rw [dF hs]
  by_cases hg:g < 1
  ·rw [vMk_err (e:=2) (by unfold meN;rw [if_neg h0,if_neg h1,if_neg hbc,if_pos (.inr (.inl hg))]) (by decide),dT hg];rfl
  rw [dF hg]
  by_cases hg2:1000 < g
  ·rw [vMk_err (e:=2) (by unfold meN;rw [if_neg h0,if_neg h1,if_neg hbc,if_pos (.inr (.inr hg2))]) (by decide),dT hg2];rfl
  have hM:MkOk n ps sb sn sd g:=meN_good o1 o2 h0 (by omega) (Classical.not_not.1 fun h=>hs (sq_le.2 h)) (by omega)
  rw [dF hg2,dT (show 0 < n by omega),dF h0,Nat.zero_add,room_pt (by omega),allOne_pts hl hM.pts,vMk_ok (by unfold meN;rw [if_neg h0,if_neg h1,if_neg hbc,if_neg (fun h=>h.elim hs (fun h=>h.elim hg hg2))])]
  have hq:pre_mk n ps g 1 sb sn sd 1 n [Value.bool false,Value.string (ByteArray.mk #[]),Value.string (ByteArray.mk #[])] ps:= ⟨hM,by omega,rfl,rfl,(cells3_one _ rfl).symm⟩
  have hp:=(phi_mk_spec _ _ _ _ _ _ _ _ _ _ _ hq).2
  rw [cond_mk_eq _ _ _ _ _ _ _ _ _ _ _ hq,show (phi_mk n ps g 1 sb sn sd 1 n [Value.bool false,Value.string (ByteArray.mk #[]),Value.string (ByteArray.mk #[])] ps).2=(n,cells3 n (tmR ps (sq0.qv sb sn sd) g)) from hp]
  rw [contF_vrow,contF_vrow,dT (show 0+n*3≤(Cont.vals (cells3 n (tmR ps (sq0.qv sb sn sd) g))).len from by show _≤(cells3 _ _).length;rw [cells3_len];omega),dT (show 0+n*6≤(Cont.vals ps).len from by show _≤ps.length;omega)]
  rfl
 ·rw [vMk_err (e:=1) (by unfold meN;rw [if_neg h0,if_neg h1,if_pos (.inr hc)]) (by decide),dF hc];rfl
theorem eMakes:Entry Tryz.prog 12 (tMkO wg0 sq0)∧Entry Tryz.prog 12 (tMkE wg0):=mk_entries (by kernel_rfl) fun n ps sb sn sd g hl ho=> ⟨_,10,10,CMkC_ok,(LL_mk_ok LOk.none).ok,make_val n ps sb sn sd g hl ho⟩
end
end Go.Proofs.YtdnmkehncpfnnaaGreat.L
namespace Go.Proofs.YtdnmkehncpfnnaaGreat.L
open Go Go.V Go.RowKit Go.Proofs.YtdnmkehncpfnnaaGreat.Sp
open Go.Proofs (Tryz.prog)
noncomputable section
theorem CRmC_ok:Meets Tryz.prog (CRmC sq0):=((meets_none _).add eRSignQ).add eRQCheck
theorem rmake_val (n:Nat) (ps:List Value) (sb:Bool) (sn sd:BA) (g:Int) (hl:ps.length=n*6) (ho:moN n ps sn sd=true):∃ (E:Env) (u d:Nat),Meets Tryz.prog E.C∧LoopsOk Tryz.prog E∧callA Tryz.prog E u d 13 [.lst false 38 n (vrow 6 ps),w3 sb sn sd, .val (.int .i64 g)]=some (vMk n ps sb sn sd g):=by
 obtain ⟨o1,o2,o3⟩:=moN_out ho
 obtain ⟨hn,hp⟩:=okqN_out (show ug0.okq n ps=true from o1)
 by_cases hb:badN n ps=true
 ·refine ⟨⟨CRmC sq0,Kall,LL_ry cond_ry phi_ry (LL_rm cond_rm phi_rm noL)⟩,10,10,CRmC_ok,(LL_ry_ok (LL_rm_ok LOk.none)).ok, ?_⟩
  rw [rmake_cally,rowV_vrow hl,okV_vrow,ok12_s o2]
  by_cases h0:n=0
  ·rw [vMk_err (e:=11) (if_pos h0) (by decide),dT (show (n:Int)=0 by omega)];rfl
  rw [dF (show ¬ (n:Int)=0 by omega)]
  by_cases h1:1000 < n
  ·rw [vMk_err (e:=4) (by unfold meN;rw [if_neg h0,if_pos h1]) (by decide),dT (show (1000:Int) < n by omega)];rfl
  rw [dF (show ¬ (1000:Int) < n by omega),vMk_err (e:=1) (by unfold meN;rw [if_neg h0,if_neg h1,if_pos (.inl hb)]) (by decide)]
  have hq:pre_ry n ps g 0 0 sb sn sd:= ⟨rfl,hn,hp,first_of n hb⟩
  have e2:(phi_ry n ps g 0 0 sb sn sd).1=1:=(phi_ry_spec _ _ _ _ _ _ _ _ hq).2
  rw [cond_ry_eq _ _ _ _ _ _ _ _ hq,e2]
  cases decide (sq0.ck sb sn sd=0) <;> rfl
 ·refine ⟨⟨CRmC sq0,Kall,LL_rk cond_rk phi_rk (LL_rm cond_rm phi_rm noL)⟩,10,10,CRmC_ok,(LL_rk_ok (LL_rm_ok LOk.none)).ok, ?_⟩
  rw [rmake_call,rowV_vrow hl,okV_vrow,ok12_s o2]
  by_cases h0:n=0
  ·rw [vMk_err (e:=11) (if_pos h0) (by decide),dT (show (n:Int)=0 by omega)];rfl
  rw [dF (show ¬ (n:Int)=0 by omega)]
  by_cases h1:1000 < n
  ·rw [vMk_err (e:=4) (by unfold meN;rw [if_neg h0,if_pos h1]) (by decide),dT (show (1000:Int) < n by omega)];rfl
  rw [dF (show ¬ (1000:Int) < n by omega)]
  by_cases hc:sq0.ck sb sn sd=0
  ·have hk:pre_rk n ps g 0 0 sb sn sd:= ⟨rfl,hn,fun j hj=> ⟨hp j hj,none_lt hb hj⟩⟩
   rw [dT hc,cond_rk_eq _ _ _ _ _ _ _ _ hk]
   have hbc:¬ (badN n ps=true∨¬ sq0.ck sb sn sd=0):=fun h=>h.elim hb (fun h=>h hc)
   by_cases hs:sq0.sq (sq0.qv sb sn sd)≤0
   ·rw [vMk_err (e:=2) (by unfold meN;rw [if_neg h0,if_neg h1,if_neg hbc,if_pos (.inl hs)]) (by decide),dT hs];rfl
   rw [dF hs]
   by_cases hg:g < 1
   ·rw [vMk_err (e:=2) (by unfold meN;rw [if_neg h0,if_neg h1,if_neg hbc,if_pos (.inr (.inl hg))]) (by decide),dT hg];rfl
   rw [dF hg]
   by_cases hg2:1000 < g
   ·rw [vMk_err (e:=2) (by unfold meN;rw [if_neg h0,if_neg h1,if_neg hbc,if_pos (.inr (.inr hg2))]) (by decide),dT hg2];rfl
   have hM:MkOk n ps sb sn sd g:=meN_good o1 o2 h0 (by omega) (Classical.not_not.1 fun h=>hs (sq_le.2 h)) (by omega)
   rw [dF hg2,vMk_ok (by unfold meN;rw [if_neg h0,if_neg h1,if_neg hbc,if_neg (fun h=>h.elim hs (fun h=>h.elim hg hg2))])]
   have hq:pre_rm n ps g 1 sb sn sd 1 n (vrow 6 ps) [Value.bool false,Value.string (ByteArray.mk #[]),Value.string (ByteArray.mk #[])]:= ⟨hM,by omega,rfl,rfl,(cells3_one _ rfl).symm⟩
   have hr:=(phi_rm_spec _ _ _ _ _ _ _ _ _ _ _ hq).2
   rw [rowV_vrow hl,cond_rm_eq _ _ _ _ _ _ _ _ _ _ _ hq,show (phi_rm n ps g 1 sb sn sd 1 n (vrow 6 ps) [Value.bool false,Value.string (ByteArray.mk #[]),Value.string (ByteArray.mk #[])]).2=(n,cells3 n (tmR ps (sq0.qv sb sn sd) g)) from hr]
   rw [contF_vrow,dT (show 0+n*3≤(Cont.vals (cells3 n (tmR ps (sq0.qv sb sn sd) g))).len from by show _≤(cells3 _ _).length;rw [cells3_len];omega)]
   rfl
  ·rw [vMk_err (e:=1) (by unfold meN;rw [if_neg h0,if_neg h1,if_pos (.inr hc)]) (by decide),dF hc];rfl
theorem eRMakes:Entry Tryz.prog 13 (tMkO wg0 sq0)∧Entry Tryz.prog 13 (tMkE wg0):=mk_entries (by kernel_rfl) rmake_val
end
end Go.Proofs.YtdnmkehncpfnnaaGreat.L
namespace Go.Proofs.YtdnmkehncpfnnaaGreat.L
open Go Go.V Go.RowKit Go.Proofs.YtdnmkehncpfnnaaGreat.Sp
open Go.Proofs (Tryz.prog)
noncomputable section
def okT (ts:List Value) (j:Nat):Bool:=isRat (ts.getD (j*3+0) undef) (ts.getD (j*3+1) undef) (ts.getD (j*3+2) undef)
theorem isRat_k {x y z:Value} (h:isRat x y z=true):isB x=true∧isS y=true∧isS z=true:=by
 obtain ⟨h1,h2,h3⟩:=isRat_out h
 exact ⟨by rw [h1];rfl,by rw [h2];rfl,by rw [h3];rfl⟩
abbrev p_s1:List Bool:= [false,true,false,true,true]
def sh_s1 (r:Bool) (i:Int) (n:Nat) (ts:List Value) (m:Nat) (ps:List Value) (n2:Nat) (ts2:List Value) (m2:Nat) (ps2:List Value):List AV:=slots 59 [(2, .ptr 0 0),(3, .ptr 1 0),(4, .val (.bool r)),(5, .val (.int .i64 i))]
def hp_s1 (r:Bool) (i:Int) (n:Nat) (ts:List Value) (m:Nat) (ps:List Value) (n2:Nat) (ts2:List Value) (m2:Nat) (ps2:List Value):Hp:= [.row (.cells [.lst false 24 n (vrow 3 ts), .lst false 38 m (vrow 6 ps)]) 30 .live, .row (.cells [.lst false 24 n2 (vrow 3 ts2), .lst false 38 m2 (vrow 6 ps2)]) 30 .live]
theorem body_s1:subC Tryz.prog 14 p_s1=some (.loop (lb 14 p_s1)):=by kernel_rfl
theorem code_s1:subC Tryz.prog 14 (false :: p_s1)=some (lb 14 p_s1):=by kernel_rfl
theorem round_s1 (r:Bool) (i:Int) (n:Nat) (ts:List Value) (m:Nat) (ps:List Value) (n2:Nat) (ts2:List Value) (m2:Nat) (ps2:List Value):letI q_3:=(i.toNat*(3:Nat)+(1:Nat));letI q_4:=(i.toNat*(3:Nat)+(2:Nat));letI q_1:=(strEq (asS (ts.getD q_3 undef)) (asS (ts2.getD q_3 undef))&&(strEq (asS (ts.getD q_4 undef)) (asS (ts2.getD q_4 undef))&&true));letI q_2:=(i.toNat*(3:Nat)+(0:Nat));
  (roundA Tryz.prog ⟨noC,Kall,noL⟩ 14 [2,3,4,5] (lb 14 p_s1) (false :: p_s1) (sh_s1 r i n ts m ps n2 ts2 m2 ps2) (hp_s1 r i n ts m ps n2 ts2 m2 ps2)=(bif decide (i < (↑n:Int)) then (bif decide ((0:Int)≤i)&&decide (i < (↑n:Int)) then (bif decide ((0:Int)≤i)&&decide (i < (↑n2:Int)) then (bif isB (ts.getD q_2 undef)&&isB (ts2.getD q_2 undef) then (bif isS (ts.getD q_3 undef)&&isS (ts2.getD q_3 undef) then (bif isS (ts.getD q_4 undef)&&isS (ts2.getD q_4 undef) then (bif bif true then !(asB (ts.getD q_2 undef)==asB (ts2.getD q_2 undef)&&q_1) else asB (ts.getD q_2 undef)==asB (ts2.getD q_2 undef)&&q_1 then some (.ret,slots 59 [(2,(.ptr 0 0)),(3,(.ptr 1 0)),(4,(.val (.bool false))),(5,(.val (.int .i64 i)))], [(.row (.cells [(.lst false 24 n (vrow (3:Nat) ts)),(.lst false 38 m (vrow (6:Nat) ps))]) 30 .live),(.row (.cells [(.lst false 24 n2 (vrow (3:Nat) ts2)),(.lst false 38 m2 (vrow (6:Nat) ps2))]) 30 .live)]) else (bif inR IntKind.i64 (i+(1:Int)) then some (.normal,slots 59 [(2,(.ptr 0 0)),(3,(.ptr 1 0)),(4,(.val (.bool r))),(5,(.val (.int .i64 (i+(1:Int)))))], [(.row (.cells [(.lst false 24 n (vrow (3:Nat) ts)),(.lst false 38 m (vrow (6:Nat) ps))]) 30 .live),(.row (.cells [(.lst false 24 n2 (vrow (3:Nat) ts2)),(.lst false 38 m2 (vrow (6:Nat) ps2))]) 30 .live)]) else none)) else none) else none) else none) else none) else none) else some ((.exit 0),slots 59 [(2,(.ptr 0 0)),(3,(.ptr 1 0)),(4,(.val (.bool r))),(5,(.val (.int .i64 i)))], [(.row (.cells [(.lst false 24 n (vrow (3:Nat) ts)),(.lst false 38 m (vrow (6:Nat) ps))]) 30 .live),(.row (.cells [(.lst false 24 n2 (vrow (3:Nat) ts2)),(.lst false 38 m2 (vrow (6:Nat) ps2))]) 30 .live)]))):=by kernel_rfl
theorem step_s1 {r:Bool} {i:Int} {n:Nat} {ts:List Value} {m:Nat} {ps:List Value} {n2:Nat} {ts2:List Value} {m2:Nat} {ps2:List Value} {e:Ex} {T:List AV} {H:Hp} (h:roundA Tryz.prog ⟨noC,Kall,noL⟩ 14 [2,3,4,5] (lb 14 p_s1) (false :: p_s1) (sh_s1 r i n ts m ps n2 ts2 m2 ps2) (hp_s1 r i n ts m ps n2 ts2 m2 ps2)=some (e,T,H)):V.Ends Tryz.prog false 0 0 (lb 14 p_s1) (sh_s1 r i n ts m ps n2 ts2 m2 ps2) (hp_s1 r i n ts m ps n2 ts2 m2 ps2) e T H:=
 round_ends (meets_none _) loops_none mixed code_s1 h
theorem s1_step {r:Bool} {n m:Nat} {ts ps:List Value} (i:Nat) (hi:i < n) (hn:n≤9223372036854775807) (h:okT ts i=true):V.Ends Tryz.prog false 0 0 (lb 14 p_s1) (sh_s1 r i n ts m ps n ts m ps) (hp_s1 r i n ts m ps n ts m ps) .normal (sh_s1 r ((i+1:Nat):Int) n ts m ps n ts m ps) (hp_s1 r ((i+1:Nat):Int) n ts m ps n ts m ps):=by
 have hr:=round_s1 r i n ts m ps n ts m ps
 obtain ⟨b1,b2,b3⟩:=isRat_k h
 simp only [Int.toNat_natCast] at hr
 rw [dT (show (i:Int) < (n:Int) by omega),dT (show (0:Int)≤(i:Int) by omega),b1,b2,b3,i64T (z:=(i:Int)+1) (by omega)] at hr
 simp only [beq_self_eq_true,strEq_self,Bool.and_true,Bool.and_self,Bool.not_true,cond_true,cond_false] at hr
 exact step_s1 hr
theorem s1_go {r:Bool} {n m:Nat} {ts ps:List Value} (hn:n≤9223372036854775807) (h:∀ j,j < n→okT ts j=true) (k:Nat):∀ i:Nat,n=i+k→LoopTo Tryz.prog (lb 14 p_s1) (sh_s1 r i n ts m ps n ts m ps) (hp_s1 r i n ts m ps n ts m ps) (.exit 0) (sh_s1 r n n ts m ps n ts m ps) (hp_s1 r n n ts m ps n ts m ps):=by
 induction k with
 | zero=>
  intro i hi
  have:i=n:=by omega
  subst this
  refine .last (step_s1 ?_) (by intro h;cases h)
  rw [round_s1,dF (show ¬ ((i:Nat):Int) < (i:Int) by omega)]
  rfl
 | succ k ih=>
  intro i hi
  exact .more (s1_step i (by omega) hn (h i (by omega))) (ih (i+1) (by omega))
def pre_s1 (r:Bool) (i:Int) (n:Nat) (ts:List Value) (m:Nat) (ps:List Value) (n2:Nat) (ts2:List Value) (m2:Nat) (ps2:List Value):Prop:=i=0∧n2=n∧ts2=ts∧m2=m∧ps2=ps∧n≤9223372036854775807∧∀ j,j < n→okT ts j=true
def post_s1 (r:Bool) (i:Int) (n:Nat) (ts:List Value) (m:Nat) (ps:List Value) (n2:Nat) (ts2:List Value) (m2:Nat) (ps2:List Value) (ρ:Int):Prop:=True
theorem loop_s1 (r:Bool) (i:Int) (n:Nat) (ts:List Value) (m:Nat) (ps:List Value) (n2:Nat) (ts2:List Value) (m2:Nat) (ps2:List Value) (h:pre_s1 r i n ts m ps n2 ts2 m2 ps2):∃ ρ:Int,LoopTo Tryz.prog (lb 14 p_s1) (sh_s1 r i n ts m ps n2 ts2 m2 ps2) (hp_s1 r i n ts m ps n2 ts2 m2 ps2) (.exit 0) (sh_s1 r ρ n ts m ps n2 ts2 m2 ps2) (hp_s1 r ρ n ts m ps n2 ts2 m2 ps2)∧post_s1 r i n ts m ps n2 ts2 m2 ps2 ρ:=by
 obtain ⟨rfl,rfl,rfl,rfl,rfl,hn,h⟩:=h
 exact ⟨_,s1_go hn h _ 0 (Nat.zero_add _).symm,trivial⟩
def told_s1 (κ:Bool→Int→Nat→List Value→Nat→List Value→Nat→List Value→Nat→List Value→Bool) (φ:Bool→Int→Nat→List Value→Nat→List Value→Nat→List Value→Nat→List Value→Int) (T:List AV) (H:Hp):Option (Bool×Ex×List AV×Hp):=
 match lget T 2,lget T 3,lget T 4,lget T 5,H with
 | .ptr 0 0, .ptr 1 0, .val (.bool r), .val (.int .i64 i), [.row (.cells [.lst false 24 n f_ts, .lst false 38 m f_ps]) 30 .live, .row (.cells [.lst false 24 n2 f_ts2, .lst false 38 m2 f_ps2]) 30 .live]=>bif T.length==59 then some (okV 3 n f_ts&&okV 6 m f_ps&&okV 3 n2 f_ts2&&okV 6 m2 f_ps2&&κ r i n (rowV 3 n f_ts) m (rowV 6 m f_ps) n2 (rowV 3 n2 f_ts2) m2 (rowV 6 m2 f_ps2), .exit 0,sh_s1 r ((φ r i n (rowV 3 n f_ts) m (rowV 6 m f_ps) n2 (rowV 3 n2 f_ts2) m2 (rowV 6 m2 f_ps2))) n (rowV 3 n f_ts) m (rowV 6 m f_ps) n2 (rowV 3 n2 f_ts2) m2 (rowV 6 m2 f_ps2),hp_s1 r ((φ r i n (rowV 3 n f_ts) m (rowV 6 m f_ps) n2 (rowV 3 n2 f_ts2) m2 (rowV 6 m2 f_ps2))) n (rowV 3 n f_ts) m (rowV 6 m f_ps) n2 (rowV 3 n2 f_ts2) m2 (rowV 6 m2 f_ps2)) else none
 | _,_,_,_,_=>none
abbrev KT_s1:Type:=Bool→Int→Nat→List Value→Nat→List Value→Nat→List Value→Nat→List Value→Bool
abbrev FT_s1:Type:=Bool→Int→Nat→List Value→Nat→List Value→Nat→List Value→Nat→List Value→Int
def LL_s1 (κ:KT_s1) (φ:FT_s1) (L:LTab):LTab:=addLn 0 14 p_s1 [2,3,4,5] (told_s1 κ φ) L
def phi_s1 (r:Bool) (i:Int) (n:Nat) (ts:List Value) (m:Nat) (ps:List Value) (n2:Nat) (ts2:List Value) (m2:Nat) (ps2:List Value):Int:=Classical.epsilon fun ρ=>LoopTo Tryz.prog (lb 14 p_s1) (sh_s1 r i n ts m ps n2 ts2 m2 ps2) (hp_s1 r i n ts m ps n2 ts2 m2 ps2) (.exit 0) (sh_s1 r (ρ) n ts m ps n2 ts2 m2 ps2) (hp_s1 r (ρ) n ts m ps n2 ts2 m2 ps2)∧post_s1 r i n ts m ps n2 ts2 m2 ps2 ρ
theorem phi_s1_spec (r:Bool) (i:Int) (n:Nat) (ts:List Value) (m:Nat) (ps:List Value) (n2:Nat) (ts2:List Value) (m2:Nat) (ps2:List Value) (h:pre_s1 r i n ts m ps n2 ts2 m2 ps2):LoopTo Tryz.prog (lb 14 p_s1) (sh_s1 r i n ts m ps n2 ts2 m2 ps2) (hp_s1 r i n ts m ps n2 ts2 m2 ps2) (.exit 0) (sh_s1 r ((phi_s1 r i n ts m ps n2 ts2 m2 ps2)) n ts m ps n2 ts2 m2 ps2) (hp_s1 r ((phi_s1 r i n ts m ps n2 ts2 m2 ps2)) n ts m ps n2 ts2 m2 ps2)∧post_s1 r i n ts m ps n2 ts2 m2 ps2 (phi_s1 r i n ts m ps n2 ts2 m2 ps2):=Classical.epsilon_spec (loop_s1 r i n ts m ps n2 ts2 m2 ps2 h)
def cond_s1 (r:Bool) (i:Int) (n:Nat) (ts:List Value) (m:Nat) (ps:List Value) (n2:Nat) (ts2:List Value) (m2:Nat) (ps2:List Value):Bool:= @decide (pre_s1 r i n ts m ps n2 ts2 m2 ps2) (Classical.propDecidable _)
theorem cond_s1_eq (r:Bool) (i:Int) (n:Nat) (ts:List Value) (m:Nat) (ps:List Value) (n2:Nat) (ts2:List Value) (m2:Nat) (ps2:List Value) (h:pre_s1 r i n ts m ps n2 ts2 m2 ps2):cond_s1 r i n ts m ps n2 ts2 m2 ps2=true:= @decide_eq_true _ (Classical.propDecidable _) h
theorem told_s1_ok (T:List AV) (H:Hp) (e:Ex) (T1:List AV) (H1:Hp) (h:told_s1 cond_s1 phi_s1 T H=some (true,e,T1,H1)):V.Ends Tryz.prog false 0 0 (.loop (lb 14 p_s1)) T H e T1 H1:=by
 unfold told_s1 at h
 split at h
 ·rename_i r i n f_ts m f_ps n2 f_ts2 m2 f_ps2 h2 h3 h4 h5
  rw [Bool.cond_eq_ite] at h
  split at h
  ·rename_i hlen
   rw [beq_iff_eq] at hlen
   simp only [Option.some.injEq,Prod.mk.injEq,Bool.and_eq_true,decide_eq_true_eq] at h
   obtain ⟨⟨⟨⟨⟨k1,k2⟩,k3⟩,k4⟩,k5⟩,rfl,rfl,rfl⟩:=h
   have kc:= @of_decide_eq_true _ (Classical.propDecidable _) k5
   refine Ends.pre (Ends.preH (phi_s1_spec r i n (rowV 3 n f_ts) m (rowV 6 m f_ps) n2 (rowV 3 n2 f_ts2) m2 (rowV 6 m2 f_ps2) kc).1.ends (sameH.cons ⟨⟨rfl,fun _ _ _ _ _ hh=>rel_trj (by kernel_rfl) (by kernel_rfl) k1 k2 hh⟩,rfl,rfl⟩ (sameH.cons ⟨⟨rfl,fun _ _ _ _ _ hh=>rel_trj (by kernel_rfl) (by kernel_rfl) k3 k4 hh⟩,rfl,rfl⟩ sameH.nil))) (fun α B w D ys hr=>slots_rel hlen (fun p hp y hy=> ?_) hr)
   simp only [List.mem_cons,List.not_mem_nil,or_false] at hp
   rcases hp with rfl | rfl | rfl | rfl
   ·rw [h2] at hy;exact hy
   ·rw [h3] at hy;exact hy
   ·rw [h4] at hy;exact hy
   ·rw [h5] at hy;exact hy
  ·cases h
 ·cases h
theorem LL_s1_ok {L:LTab} (h:LOk Tryz.prog L):LOk Tryz.prog (LL_s1 cond_s1 phi_s1 L):=h.add2n body_s1 told_s1_ok
abbrev p_s2:List Bool:= [false,true,false,true,true,true]
def sh_s2 (r:Bool) (i:Int) (n:Nat) (ts:List Value) (m:Nat) (ps:List Value) (n2:Nat) (ts2:List Value) (m2:Nat) (ps2:List Value):List AV:=slots 59 [(2, .ptr 0 0),(3, .ptr 1 0),(4, .val (.bool r)),(6, .val (.int .i64 i))]
def hp_s2 (r:Bool) (i:Int) (n:Nat) (ts:List Value) (m:Nat) (ps:List Value) (n2:Nat) (ts2:List Value) (m2:Nat) (ps2:List Value):Hp:= [.row (.cells [.lst false 24 n (vrow 3 ts), .lst false 38 m (vrow 6 ps)]) 30 .live, .row (.cells [.lst false 24 n2 (vrow 3 ts2), .lst false 38 m2 (vrow 6 ps2)]) 30 .live]
theorem body_s2:subC Tryz.prog 14 p_s2=some (.loop (lb 14 p_s2)):=by kernel_rfl
theorem code_s2:subC Tryz.prog 14 (false :: p_s2)=some (lb 14 p_s2):=by kernel_rfl
theorem round_s2 (r:Bool) (i:Int) (n:Nat) (ts:List Value) (m:Nat) (ps:List Value) (n2:Nat) (ts2:List Value) (m2:Nat) (ps2:List Value):letI q_5:=(i.toNat*(6:Nat)+(1:Nat));letI q_6:=(i.toNat*(6:Nat)+(2:Nat));letI q_1:=(strEq (asS (ps.getD q_5 undef)) (asS (ps2.getD q_5 undef))&&(strEq (asS (ps.getD q_6 undef)) (asS (ps2.getD q_6 undef))&&true));letI q_7:=(i.toNat*(6:Nat)+(4:Nat));letI q_8:=(i.toNat*(6:Nat)+(5:Nat));letI q_2:=(strEq (asS (ps.getD q_7 undef)) (asS (ps2.getD q_7 undef))&&(strEq (asS (ps.getD q_8 undef)) (asS (ps2.getD q_8 undef))&&true));letI q_3:=(i.toNat*(6:Nat)+(0:Nat));letI q_4:=(i.toNat*(6:Nat)+(3:Nat));
  (roundA Tryz.prog ⟨noC,Kall,noL⟩ 14 [2,3,4,6] (lb 14 p_s2) (false :: p_s2) (sh_s2 r i n ts m ps n2 ts2 m2 ps2) (hp_s2 r i n ts m ps n2 ts2 m2 ps2)=(bif decide (i < (↑m:Int)) then (bif decide ((0:Int)≤i)&&decide (i < (↑m:Int)) then (bif decide ((0:Int)≤i)&&decide (i < (↑m2:Int)) then (bif isB (ps.getD q_3 undef)&&isB (ps2.getD q_3 undef) then (bif isS (ps.getD q_5 undef)&&isS (ps2.getD q_5 undef) then (bif isS (ps.getD q_6 undef)&&isS (ps2.getD q_6 undef) then (bif isB (ps.getD q_4 undef)&&isB (ps2.getD q_4 undef) then (bif isS (ps.getD q_7 undef)&&isS (ps2.getD q_7 undef) then (bif isS (ps.getD q_8 undef)&&isS (ps2.getD q_8 undef) then (bif bif true then !(asB (ps.getD q_3 undef)==asB (ps2.getD q_3 undef)&&q_1&&(asB (ps.getD q_4 undef)==asB (ps2.getD q_4 undef)&&q_2&&true)) else asB (ps.getD q_3 undef)==asB (ps2.getD q_3 undef)&&q_1&&(asB (ps.getD q_4 undef)==asB (ps2.getD q_4 undef)&&q_2&&true) then some (.ret,slots 59 [(2,(.ptr 0 0)),(3,(.ptr 1 0)),(4,(.val (.bool false))),(6,(.val (.int .i64 i)))], [(.row (.cells [(.lst false 24 n (vrow (3:Nat) ts)),(.lst false 38 m (vrow (6:Nat) ps))]) 30 .live),(.row (.cells [(.lst false 24 n2 (vrow (3:Nat) ts2)),(.lst false 38 m2 (vrow (6:Nat) ps2))]) 30 .live)]) else (bif inR IntKind.i64 (i+(1:Int)) then some (.normal,slots 59 [(2,(.ptr 0 0)),(3,(.ptr 1 0)),(4,(.val (.bool r))),(6,(.val (.int .i64 (i+(1:Int)))))], [(.row (.cells [(.lst false 24 n (vrow (3:Nat) ts)),(.lst false 38 m (vrow (6:Nat) ps))]) 30 .live),(.row (.cells [(.lst false 24 n2 (vrow (3:Nat) ts2)),(.lst false 38 m2 (vrow (6:Nat) ps2))]) 30 .live)]) else none)) else none) else none) else none) else none) else none) else none) else none) else none) else some ((.exit 2),slots 59 [(2,(.ptr 0 0)),(3,(.ptr 1 0)),(4,(.val (.bool r))),(6,(.val (.int .i64 i)))], [(.row (.cells [(.lst false 24 n (vrow (3:Nat) ts)),(.lst false 38 m (vrow (6:Nat) ps))]) 30 .live),(.row (.cells [(.lst false 24 n2 (vrow (3:Nat) ts2)),(.lst false 38 m2 (vrow (6:Nat) ps2))]) 30 .live)]))):=by kernel_rfl
theorem step_s2 {r:Bool} {i:Int} {n:Nat} {ts:List Value} {m:Nat} {ps:List Value} {n2:Nat} {ts2:List Value} {m2:Nat} {ps2:List Value} {e:Ex} {T:List AV} {H:Hp} (h:roundA Tryz.prog ⟨noC,Kall,noL⟩ 14 [2,3,4,6] (lb 14 p_s2) (false :: p_s2) (sh_s2 r i n ts m ps n2 ts2 m2 ps2) (hp_s2 r i n ts m ps n2 ts2 m2 ps2)=some (e,T,H)):V.Ends Tryz.prog false 0 0 (lb 14 p_s2) (sh_s2 r i n ts m ps n2 ts2 m2 ps2) (hp_s2 r i n ts m ps n2 ts2 m2 ps2) e T H:=
 round_ends (meets_none _) loops_none mixed code_s2 h
theorem s2_step {r:Bool} {n m:Nat} {ts ps:List Value} (i:Nat) (hi:i < m) (hn:m≤9223372036854775807) (h:okP ps i=true):V.Ends Tryz.prog false 0 0 (lb 14 p_s2) (sh_s2 r i n ts m ps n ts m ps) (hp_s2 r i n ts m ps n ts m ps) .normal (sh_s2 r ((i+1:Nat):Int) n ts m ps n ts m ps) (hp_s2 r ((i+1:Nat):Int) n ts m ps n ts m ps):=by
 have hr:=round_s2 r i n ts m ps n ts m ps
 obtain ⟨h1,h2⟩:=okP_out h
 obtain ⟨b1,b2,b3⟩:=isRat_k h1
 obtain ⟨b4,b5,b6⟩:=isRat_k h2
 simp only [Int.toNat_natCast] at hr
 rw [dT (show (i:Int) < (m:Int) by omega),dT (show (0:Int)≤(i:Int) by omega),b1,b2,b3,b4,b5,b6,i64T (z:=(i:Int)+1) (by omega)] at hr
 simp only [beq_self_eq_true,strEq_self,Bool.and_true,Bool.and_self,Bool.not_true,cond_true,cond_false] at hr
 exact step_s2 hr
theorem s2_go {r:Bool} {n m:Nat} {ts ps:List Value} (hn:m≤9223372036854775807) (h:∀ j,j < m→okP ps j=true) (k:Nat):∀ i:Nat,m=i+k→LoopTo Tryz.prog (lb 14 p_s2) (sh_s2 r i n ts m ps n ts m ps) (hp_s2 r i n ts m ps n ts m ps) (.exit 2) (sh_s2 r m n ts m ps n ts m ps) (hp_s2 r m n ts m ps n ts m ps):=by
 induction k with
 | zero=>
  intro i hi
  have:i=m:=by omega
  subst this
  refine .last (step_s2 ?_) (by intro h;cases h)
  rw [round_s2,dF (show ¬ ((i:Nat):Int) < (i:Int) by omega)]
  rfl
 | succ k ih=>
  intro i hi
  exact .more (s2_step i (by omega) hn (h i (by omega))) (ih (i+1) (by omega))
def pre_s2 (r:Bool) (i:Int) (n:Nat) (ts:List Value) (m:Nat) (ps:List Value) (n2:Nat) (ts2:List Value) (m2:Nat) (ps2:List Value):Prop:=i=0∧n2=n∧ts2=ts∧m2=m∧ps2=ps∧m≤9223372036854775807∧∀ j,j < m→okP ps j=true
def post_s2 (r:Bool) (i:Int) (n:Nat) (ts:List Value) (m:Nat) (ps:List Value) (n2:Nat) (ts2:List Value) (m2:Nat) (ps2:List Value) (ρ:Int):Prop:=True
theorem loop_s2 (r:Bool) (i:Int) (n:Nat) (ts:List Value) (m:Nat) (ps:List Value) (n2:Nat) (ts2:List Value) (m2:Nat) (ps2:List Value) (h:pre_s2 r i n ts m ps n2 ts2 m2 ps2):∃ ρ:Int,LoopTo Tryz.prog (lb 14 p_s2) (sh_s2 r i n ts m ps n2 ts2 m2 ps2) (hp_s2 r i n ts m ps n2 ts2 m2 ps2) (.exit 2) (sh_s2 r ρ n ts m ps n2 ts2 m2 ps2) (hp_s2 r ρ n ts m ps n2 ts2 m2 ps2)∧post_s2 r i n ts m ps n2 ts2 m2 ps2 ρ:=by
 obtain ⟨rfl,rfl,rfl,rfl,rfl,hn,h⟩:=h
 exact ⟨_,s2_go hn h _ 0 (Nat.zero_add _).symm,trivial⟩
def told_s2 (κ:Bool→Int→Nat→List Value→Nat→List Value→Nat→List Value→Nat→List Value→Bool) (φ:Bool→Int→Nat→List Value→Nat→List Value→Nat→List Value→Nat→List Value→Int) (T:List AV) (H:Hp):Option (Bool×Ex×List AV×Hp):=
 match lget T 2,lget T 3,lget T 4,lget T 6,H with
 | .ptr 0 0, .ptr 1 0, .val (.bool r), .val (.int .i64 i), [.row (.cells [.lst false 24 n f_ts, .lst false 38 m f_ps]) 30 .live, .row (.cells [.lst false 24 n2 f_ts2, .lst false 38 m2 f_ps2]) 30 .live]=>bif T.length==59 then some (okV 3 n f_ts&&okV 6 m f_ps&&okV 3 n2 f_ts2&&okV 6 m2 f_ps2&&κ r i n (rowV 3 n f_ts) m (rowV 6 m f_ps) n2 (rowV 3 n2 f_ts2) m2 (rowV 6 m2 f_ps2), .exit 2,sh_s2 r ((φ r i n (rowV 3 n f_ts) m (rowV 6 m f_ps) n2 (rowV 3 n2 f_ts2) m2 (rowV 6 m2 f_ps2))) n (rowV 3 n f_ts) m (rowV 6 m f_ps) n2 (rowV 3 n2 f_ts2) m2 (rowV 6 m2 f_ps2),hp_s2 r ((φ r i n (rowV 3 n f_ts) m (rowV 6 m f_ps) n2 (rowV 3 n2 f_ts2) m2 (rowV 6 m2 f_ps2))) n (rowV 3 n f_ts) m (rowV 6 m f_ps) n2 (rowV 3 n2 f_ts2) m2 (rowV 6 m2 f_ps2)) else none
 | _,_,_,_,_=>none
abbrev KT_s2:Type:=Bool→Int→Nat→List Value→Nat→List Value→Nat→List Value→Nat→List Value→Bool
abbrev FT_s2:Type:=Bool→Int→Nat→List Value→Nat→List Value→Nat→List Value→Nat→List Value→Int
def LL_s2 (κ:KT_s2) (φ:FT_s2) (L:LTab):LTab:=addLn 0 14 p_s2 [2,3,4,6] (told_s2 κ φ) L
def phi_s2 (r:Bool) (i:Int) (n:Nat) (ts:List Value) (m:Nat) (ps:List Value) (n2:Nat) (ts2:List Value) (m2:Nat) (ps2:List Value):Int:=Classical.epsilon fun ρ=>LoopTo Tryz.prog (lb 14 p_s2) (sh_s2 r i n ts m ps n2 ts2 m2 ps2) (hp_s2 r i n ts m ps n2 ts2 m2 ps2) (.exit 2) (sh_s2 r (ρ) n ts m ps n2 ts2 m2 ps2) (hp_s2 r (ρ) n ts m ps n2 ts2 m2 ps2)∧post_s2 r i n ts m ps n2 ts2 m2 ps2 ρ
theorem phi_s2_spec (r:Bool) (i:Int) (n:Nat) (ts:List Value) (m:Nat) (ps:List Value) (n2:Nat) (ts2:List Value) (m2:Nat) (ps2:List Value) (h:pre_s2 r i n ts m ps n2 ts2 m2 ps2):LoopTo Tryz.prog (lb 14 p_s2) (sh_s2 r i n ts m ps n2 ts2 m2 ps2) (hp_s2 r i n ts m ps n2 ts2 m2 ps2) (.exit 2) (sh_s2 r ((phi_s2 r i n ts m ps n2 ts2 m2 ps2)) n ts m ps n2 ts2 m2 ps2) (hp_s2 r ((phi_s2 r i n ts m ps n2 ts2 m2 ps2)) n ts m ps n2 ts2 m2 ps2)∧post_s2 r i n ts m ps n2 ts2 m2 ps2 (phi_s2 r i n ts m ps n2 ts2 m2 ps2):=Classical.epsilon_spec (loop_s2 r i n ts m ps n2 ts2 m2 ps2 h)
def cond_s2 (r:Bool) (i:Int) (n:Nat) (ts:List Value) (m:Nat) (ps:List Value) (n2:Nat) (ts2:List Value) (m2:Nat) (ps2:List Value):Bool:= @decide (pre_s2 r i n ts m ps n2 ts2 m2 ps2) (Classical.propDecidable _)
theorem cond_s2_eq (r:Bool) (i:Int) (n:Nat) (ts:List Value) (m:Nat) (ps:List Value) (n2:Nat) (ts2:List Value) (m2:Nat) (ps2:List Value) (h:pre_s2 r i n ts m ps n2 ts2 m2 ps2):cond_s2 r i n ts m ps n2 ts2 m2 ps2=true:= @decide_eq_true _ (Classical.propDecidable _) h
theorem told_s2_ok (T:List AV) (H:Hp) (e:Ex) (T1:List AV) (H1:Hp) (h:told_s2 cond_s2 phi_s2 T H=some (true,e,T1,H1)):V.Ends Tryz.prog false 0 0 (.loop (lb 14 p_s2)) T H e T1 H1:=by
 unfold told_s2 at h
 split at h
 ·rename_i r i n f_ts m f_ps n2 f_ts2 m2 f_ps2 h2 h3 h4 h6
  rw [Bool.cond_eq_ite] at h
  split at h
  ·rename_i hlen
   rw [beq_iff_eq] at hlen
   simp only [Option.some.injEq,Prod.mk.injEq,Bool.and_eq_true,decide_eq_true_eq] at h
   obtain ⟨⟨⟨⟨⟨k1,k2⟩,k3⟩,k4⟩,k5⟩,rfl,rfl,rfl⟩:=h
   have kc:= @of_decide_eq_true _ (Classical.propDecidable _) k5
   refine Ends.pre (Ends.preH (phi_s2_spec r i n (rowV 3 n f_ts) m (rowV 6 m f_ps) n2 (rowV 3 n2 f_ts2) m2 (rowV 6 m2 f_ps2) kc).1.ends (sameH.cons ⟨⟨rfl,fun _ _ _ _ _ hh=>rel_trj (by kernel_rfl) (by kernel_rfl) k1 k2 hh⟩,rfl,rfl⟩ (sameH.cons ⟨⟨rfl,fun _ _ _ _ _ hh=>rel_trj (by kernel_rfl) (by kernel_rfl) k3 k4 hh⟩,rfl,rfl⟩ sameH.nil))) (fun α B w D ys hr=>slots_rel hlen (fun p hp y hy=> ?_) hr)
   simp only [List.mem_cons,List.not_mem_nil,or_false] at hp
   rcases hp with rfl | rfl | rfl | rfl
   ·rw [h2] at hy;exact hy
   ·rw [h3] at hy;exact hy
   ·rw [h4] at hy;exact hy
   ·rw [h6] at hy;exact hy
  ·cases h
 ·cases h
theorem LL_s2_ok {L:LTab} (h:LOk Tryz.prog L):LOk Tryz.prog (LL_s2 cond_s2 phi_s2 L):=h.add2n body_s2 told_s2_ok
theorem same_call (κ:KT_s1) (φ:FT_s1) (κ':KT_s2) (φ':FT_s2) (n m:Nat) (ts ps:List Value):callA Tryz.prog ⟨noC,Kall,LL_s1 κ φ (LL_s2 κ' φ' noL)⟩ 10 10 14 [.agg [.lst false 24 n (vrow 3 ts), .lst false 38 m (vrow 6 ps)], .agg [.lst false 24 n (vrow 3 ts), .lst false 38 m (vrow 6 ps)]]=
  (bif !decide ((↑n:Int)=(↑n:Int)) then some (.val (.bool false)) else (bif !decide ((↑m:Int)=(↑m:Int)) then some (.val (.bool false)) else (bif okV (3:Nat) n (vrow (3:Nat) ts)&&okV (6:Nat) m (vrow (6:Nat) ps)&&okV (3:Nat) n (vrow (3:Nat) ts)&&okV (6:Nat) m (vrow (6:Nat) ps)&&κ false (0:Int) n (rowV (3:Nat) n (vrow (3:Nat) ts)) m (rowV (6:Nat) m (vrow (6:Nat) ps)) n (rowV (3:Nat) n (vrow (3:Nat) ts)) m (rowV (6:Nat) m (vrow (6:Nat) ps)) then (bif okV (3:Nat) n (vrow (3:Nat) (rowV (3:Nat) n (vrow (3:Nat) ts)))&&okV (6:Nat) m (vrow (6:Nat) (rowV (6:Nat) m (vrow (6:Nat) ps)))&&okV (3:Nat) n (vrow (3:Nat) (rowV (3:Nat) n (vrow (3:Nat) ts)))&&okV (6:Nat) m (vrow (6:Nat) (rowV (6:Nat) m (vrow (6:Nat) ps)))&&κ' false (0:Int) n (rowV (3:Nat) n (vrow (3:Nat) (rowV (3:Nat) n (vrow (3:Nat) ts)))) m (rowV (6:Nat) m (vrow (6:Nat) (rowV (6:Nat) m (vrow (6:Nat) ps)))) n (rowV (3:Nat) n (vrow (3:Nat) (rowV (3:Nat) n (vrow (3:Nat) ts)))) m (rowV (6:Nat) m (vrow (6:Nat) (rowV (6:Nat) m (vrow (6:Nat) ps)))) then some (.val (.bool true)) else none) else none))):=by kernel_rfl
theorem same_nil:callA Tryz.prog ⟨noC,Kall,noL⟩ 10 10 14 [.agg [.val (.slice none 0 0), .val (.slice none 0 0)], .agg [.val (.slice none 0 0), .val (.slice none 0 0)]]=some (.val (.bool true)):=by kernel_rfl
def okTs (n:Nat) (ts:List Value):Bool:=decide (n≤9223372036854775807)&&(List.range n).all (okT ts)
theorem okTs_out {n:Nat} {ts:List Value} (h:okTs n ts=true):n≤9223372036854775807∧∀ j,j < n→okT ts j=true:=by
 unfold okTs at h
 rw [Bool.and_eq_true,decide_eq_true_eq] at h
 exact ⟨h.1,fun j hj=>all_lt h.2 hj⟩
structure Sm where
 sm:Nat→List Value→Nat→List Value→Nat→List Value→Nat→List Value→Bool
def smN (n:Nat) (ts:List Value) (m:Nat) (ps:List Value) (n2:Nat) (ts2:List Value) (m2:Nat) (ps2:List Value):Bool:= @decide (n2=n∧ts2=ts∧m2=m∧ps2=ps∧okTs n ts=true∧okpN m ps=true) (Classical.propDecidable _)
def sm0:Sm:= ⟨smN⟩
theorem smN_in {n m:Nat} {ts ps:List Value} (h1:okTs n ts=true) (h2:okpN m ps=true):sm0.sm n ts m ps n ts m ps=true:= @decide_eq_true _ (Classical.propDecidable _) ⟨rfl,rfl,rfl,rfl,h1,h2⟩
def tSameO (M:Sm):TF:=fun args=>match args with
 | [.agg [.lst _ 24 n f, .lst _ 38 m g], .agg [.lst _ 24 n2 f2, .lst _ 38 m2 g2]]=>
  some (okV 3 n f&&okV 6 m g&&(okV 3 n2 f2&&okV 6 m2 g2&&M.sm n (rowV 3 n f) m (rowV 6 m g) n2 (rowV 3 n2 f2) m2 (rowV 6 m2 g2)), .val (.bool true))
 | _=>none
def tSameE:TF:=fun args=>match args with
 | [.agg [.val (.slice none 0 0), .val (.slice none 0 0)], .agg [.val (.slice none 0 0), .val (.slice none 0 0)]]=>some (true, .val (.bool true))
 | _=>none
theorem eSameE:Entry Tryz.prog 14 tSameE:=entry_of (meets_none _) loops_none mixed (by kernel_rfl) (fun args r h=>by
 unfold tSameE at h
 split at h
 ·cases h;exact same_nil
 ·cases h)
theorem eSameO:Entry Tryz.prog 14 (tSameO sm0):=by
 refine entry_at (by kernel_rfl) (fun args r h=> ?_)
 unfold tSameO at h
 split at h
 ·rename_i fl n f fl2 m g fl3 n2 f2 fl4 m2 g2
  simp only [Option.some.injEq,Prod.mk.injEq,Bool.and_eq_true] at h
  obtain ⟨⟨⟨h1,h2⟩, ⟨h3,h4⟩,h5⟩,rfl⟩:=h
  obtain ⟨rfl,q1,rfl,q2,k1,k2⟩:= @of_decide_eq_true _ (Classical.propDecidable _) h5
  have hI:ImpL [.agg [.lst fl 24 n2 f, .lst fl2 38 m2 g], .agg [.lst fl3 24 n2 f2, .lst fl4 38 m2 g2]] [.agg [.lst false 24 n2 (vrow 3 (rowV 3 n2 f)), .lst false 38 m2 (vrow 6 (rowV 6 m2 g))], .agg [.lst false 24 n2 (vrow 3 (rowV 3 n2 f2)), .lst false 38 m2 (vrow 6 (rowV 6 m2 g2))]]:=
   ImpL.cons (Imp.agg (ImpL.cons (Imp.row (by kernel_rfl) h1) (ImpL.cons (Imp.row (by kernel_rfl) h2) (ImpL.refl _)))) (ImpL.cons (Imp.agg (ImpL.cons (Imp.row (by kernel_rfl) h3) (ImpL.cons (Imp.row (by kernel_rfl) h4) (ImpL.refl _)))) (ImpL.refl _))
  rw [q1,q2] at hI
  have l1:=rowV_len 3 n2 f
  have l2:=rowV_len 6 m2 g
  generalize rowV 3 n2 f=ts at*
  generalize rowV 6 m2 g=ps at*
  obtain ⟨k3,k4⟩:=okTs_out k1
  obtain ⟨k5,k6⟩:=okpN_out (show tg0.okp m2 ps=true from k2)
  refine ⟨⟨noC,Kall,LL_s1 cond_s1 phi_s1 (LL_s2 cond_s2 phi_s2 noL)⟩,10,10,_,_,meets_none _,(LL_s1_ok (LL_s2_ok LOk.none)).ok, ?_,hI,Imp.refl _⟩
  have p1:pre_s1 false 0 n2 ts m2 ps n2 ts m2 ps:= ⟨rfl,rfl,rfl,rfl,rfl,k3,k4⟩
  have p2:pre_s2 false 0 n2 ts m2 ps n2 ts m2 ps:= ⟨rfl,rfl,rfl,rfl,rfl,k5,k6⟩
  rw [same_call,dT (show (n2:Int)=n2 from rfl),dT (show (m2:Int)=m2 from rfl)]
  simp only [rowV_vrow l1,rowV_vrow l2,okV_vrow,cond_s1_eq _ _ _ _ _ _ _ _ _ _ p1,cond_s2_eq _ _ _ _ _ _ _ _ _ _ p2,Bool.and_self,cond_true,Bool.not_true,cond_false]
 ·cases h
end
end Go.Proofs.YtdnmkehncpfnnaaGreat.L
namespace Go.Proofs.YtdnmkehncpfnnaaGreat.L
open Go Go.V Go.RowKit Go.Proofs.YtdnmkehncpfnnaaGreat.Sp Go.Proofs.YtdnmkehncpfnnaaGreat.F
open Go.Proofs (Tryz.prog)
noncomputable section
def toBC:Nat→Nat→List UInt8
 | 0,_=> []
 | k+1,n=>if n=0 then [] else toBC k (n / 256) ++ [UInt8.ofNat n]
theorem toBC_eq (k:Nat):∀ n,n < 256 ^ k→toBC k n=toB n:=by
 induction k with
 | zero=>
  intro n h
  have:n=0:=by rw [Nat.pow_zero] at h;omega
  subst this
  unfold toB;rfl
 | succ k ih=>
  intro n h
  unfold toB toBC
  by_cases h0:n=0
  ·rw [if_pos h0,dif_pos h0]
  ·rw [if_neg h0,dif_neg h0,ih (n / 256) (by rw [Nat.pow_succ] at h;exact Nat.div_lt_of_lt_mul (by rw [Nat.mul_comm];exact h))]
def magC (n:Nat):ByteArray:=if n < 281474976710656 then ⟨(toBC 6 n).toArray⟩ else magOf n
theorem magC_eq:magC=magOf:=by
 funext n
 unfold magC
 split
 ·rename_i h
  rw [toBC_eq 6 n h];rfl
 ·rfl
def sgM (mg:Nat→ByteArray):Sg:= { sg0 with ms:=fun z=>mg z.natAbs }
def qdM (mg:Nat→ByteArray) (q:Rat):ByteArray:=if q.den=1 then ByteArray.mk #[] else mg q.den
def sqM (mg:Nat→ByteArray):Qg:= { sq0 with
 qs:=fun q=>mg q.num.natAbs
 qd:=qdM mg
 ck:=fun b n d=>bif (b==qnn (qvn b n d))&&strEq n (mg (qvn b n d).num.natAbs)&&strEq d (qdM mg (qvn b n d)) then 0 else 1 }
theorem sgM_eq:sg0=sgM magC:=by rw [magC_eq];rfl
theorem sqM_eq:sq0=sqM magC:=by rw [magC_eq];rfl
def CAwS (S:Sg) (X:Xg) (Z:Qg):FuncId→TF:=addC 82 (tQRatio X Z) (addC 22 (tQOf Z) (addC 19 (tQAdd Z) (addC 17 (tQSub Z) (addC 18 (tQMul Z) (addC 27 (tQQuo Z) (addC 21 (tQCompare Z) (addC 20 (tQSign Z) (addC 42 (tQCheck Z) (addC 85 (tQCeil S Z) (addC 44 (tQNew S X Z) (addC 86 (tRoot S X) (addC 47 (tOf S) (addC 63 (tAdd S) (addC 64 (tCompare S) noC))))))))))))))
theorem CAwS_ok:Meets Tryz.prog (CAwS sg0 xg0 sq0):=(((((((((((((((meets_none _).add eCompare).add eAdd).add eOf).add eRoot).add eQNew).add eQCeil).add eQCheck).add eQSign).add eQCompare).add eQQuo).add eQMul).add eQSub).add eQAdd).add eQOf).add eQRatio
def KAw:FuncId→Bool:=fun g=> !(g==103 ||g==104)
def tAwS:TF:=fun args=>match args with | []=>some (true, .val (.bool true)) | _=>none
theorem awk51:callA Tryz.prog ⟨CAwS (sgM magC) xg0 (sqM magC),KAw,noL⟩ 20 20 11 []=some (.val (.bool true)):=by kernel_rfl
theorem eAwakeS:Entry Tryz.prog 11 tAwS:=entry_of CAwS_ok loops_none mixed (by kernel_rfl) (fun args r h=>by
 unfold tAwS at h
 split at h
 ·cases h;rw [sgM_eq,sqM_eq];exact awk51
 ·cases h)
end
end Go.Proofs.YtdnmkehncpfnnaaGreat.L
namespace Go.Proofs.YtdnmkehncpfnnaaGreat.L
open Go Go.V Go.ChangeShapes Go.WideShapes Go.RowKit Go.Deep Go.Joins Go.Proofs.YtdnmkehncpfnnaaGreat.Sp
open Go.Proofs (Tryz.prog)
noncomputable section
section
variable {H : Type} {enc : TypeId × Value → H} {w w' : World}
theorem back_arg {t:TypeId} {v:Value} {d:DataW H} {ps:List MemPlace} (hr:Tryz.prog.readableRec t=true) (hrow:t < Tryz.prog.types.size) (h:DataW.Trod enc Tryz.prog w 0 (fun _=>true) true t v d ps) (hb:Below w.heap.size w w'):
  DataW.Trod enc Tryz.prog w' 0 (fun b=>decide (b < w.heap.size)) true t v d ps:=
 Below.trod (by kernel_rfl) hr hrow h hb (fun x hx=>by obtain ⟨n,hn⟩:=h;exact DataW.trod_lt n _ _ _ hn x hx)
theorem slice_rel {t e:TypeId} {fuel:Nat} {v:Value} {x:DataW H×List MemPlace} (ht:Tryz.prog.underlying t=some (.slice e)) (hc:0 < Tryz.prog.cellsOf e) (h:DataW.trod enc Tryz.prog w 0 (fun _=>true) true fuel t [v]=some x):
  ∃ (n:Nat) (f:Nat→Nat→Value),n≤9223372036854775807∧(AV.lst false e n (fun j q=> .val (f j q))).Rel Tryz.prog NoA (fun _=>False) w NoD v∧∀ j,j < n→∃ m y,DataW.trod enc Tryz.prog w 0 (fun _=>true) true m e ((List.range (Tryz.prog.cellsOf e)).map (f j))=some y:=by
 rcases open_slice ht h with ⟨h0,_⟩ | ⟨a,len,cap,m,n,D,Pl,h0,hb,hl,hm,hmm,_,hx⟩
 ·cases h0
  exact ⟨0,fun _ _=>undef,Nat.zero_le _, ⟨none,0,rfl,Nat.le_refl _,(fun h=>by cases h), .inl rfl⟩,fun j hj=>by omega⟩
 ·cases h0
  have hm2:m=cap:=by rw [hmm];rfl
  have hmx:cap≤9223372036854775807:=hm
  by_cases hl0:len=0
  ·subst hl0
   exact ⟨0,fun _ _=>undef,Nat.zero_le _, ⟨some a,_,rfl,hl,(fun h=>by cases h), .inl rfl⟩,fun j hj=>by omega⟩
  ·obtain ⟨cs,hcs⟩:=choose_lt (α:=List Value) (p:=fun i l=>w.cells? 0 (a.add (i*Tryz.prog.cellsOf e)) (Tryz.prog.cellsOf e)=some l∧DataW.trod enc Tryz.prog w 0 (fun _=>true) true n e l=some (D i,Pl i)) (n:=len) (fun i hi=>hx i (by omega))
   have hcell:∀ j,j < len→(cs j).length=Tryz.prog.cellsOf e∧∀ q,q < Tryz.prog.cellsOf e→w.cell? (a.add (j*Tryz.prog.cellsOf e+q))=some ((cs j).getD q undef):=fun j hj=>by
    obtain ⟨_,h2,h3⟩:=World.cells?_some (hcs j hj).1
    refine ⟨h2,fun q hq=> ?_⟩
    have:=h3 q hq
    rw [add_add] at this
    rw [this,List.getD_eq_getElem?_getD,List.getElem?_eq_getElem (show q < (cs j).length by omega)];rfl
   have h00:=(hcell 0 (by omega)).2 0 hc
   have hsp:a.spot=none:=by
    have:a.add (0*Tryz.prog.cellsOf e+0)=a:=by rw [Nat.zero_mul];rfl
    rw [this] at h00
    exact World.cell?_spot h00
   obtain ⟨b,o,spot⟩:=a
   have hsp:spot=none:=hsp
   subst hsp
   have hadd:∀ i,(⟨b,o,none⟩:Addr).add i= ⟨b,o+i,none⟩:=fun i=>by
    unfold Addr.add
    split
    ·rename_i h;subst h;rfl
    ·rfl
   rw [hadd] at h00
   have hheap:∃ c ty fr,w.heap[b]? =some (.cells c ty fr):=by
    unfold World.cell? at h00
    simp only at h00
    split at h00
    ·rename_i c ty fr hh;exact ⟨c,ty,fr,hh⟩
    ·cases h00
   obtain ⟨c,ty,fr,hh⟩:=hheap
   have hget:∀ i y,w.cell? ⟨b,i,none⟩=some y→c[i]? =some y:=fun i y h=>by
    unfold World.cell? at h
    simp only [hh] at h
    exact h
   have hrel:(AV.lst false e len (fun j q=> .val ((cs j).getD q undef))).Rel Tryz.prog NoA (fun _=>False) w NoD (.slice (some ⟨b,o,none⟩) len cap):=by
    refine ⟨some ⟨b,o,none⟩,cap,rfl,hl,(fun h=>by cases h), .inr ⟨b,o,c,ty,fr,rfl,(fun h=>h),hh,fun j k hj hk=> ⟨(cs j).getD k undef, ?_,rfl⟩⟩⟩
    have:=(hcell j hj).2 k hk
    rw [hadd] at this
    rw [Nat.add_assoc]
    exact hget _ _ this
   refine ⟨len,fun j q=>(cs j).getD q undef,by omega,hrel,fun j hj=> ⟨n,(D j,Pl j), ?_⟩⟩
   have e1:(List.range (Tryz.prog.cellsOf e)).map (fun q=>(cs j).getD q undef)=cs j:=by
    have hl2:=(hcell j hj).1
    apply List.ext_getElem?
    intro i
    by_cases hi:i < Tryz.prog.cellsOf e
    ·rw [List.getElem?_map,List.getElem?_range hi,List.getElem?_eq_getElem (show i < (cs j).length by omega),Option.map_some,List.getD_eq_getElem?_getD,List.getElem?_eq_getElem (show i < (cs j).length by omega)];rfl
    ·rw [List.getElem?_eq_none (by simp;omega),List.getElem?_eq_none (by omega)]
   rw [e1]
   exact (hcs j hj).2
theorem cells_rat {fuel:Nat} {a b c:Value} {x:DataW H×List MemPlace} (h:DataW.trod enc Tryz.prog w 0 (fun _=>true) true fuel 24 [a,b,c]=some x):isRat a b c=true:=by
 obtain ⟨y0,y1,y2,n,_,_,h0,h1,h2⟩:=trod_struct3 (Tryz.underlying24) h
 have e0:Tryz.prog.cellsOf 4=1:=by kernel_rfl
 have e1:Tryz.prog.cellsOf 9=1:=by kernel_rfl
 simp only [e0,e1] at h0 h1 h2
 obtain ⟨b1,q1,_⟩:=DataW.trod_bool (show Tryz.prog.underlying _=some .bool from by kernel_rfl) h0
 obtain ⟨s1,q2,_⟩:=DataW.trod_string (show Tryz.prog.underlying _=some .string from by kernel_rfl) h1
 obtain ⟨s2,q3,_⟩:=DataW.trod_string (show Tryz.prog.underlying _=some .string from by kernel_rfl) h2
 cases q1;cases q2;cases q3
 rfl
theorem cells_pt {fuel:Nat} {a b c d e f:Value} {x:DataW H×List MemPlace} (h:DataW.trod enc Tryz.prog w 0 (fun _=>true) true fuel 38 [a,b,c,d,e,f]=some x):isRat a b c=true∧isRat d e f=true:=by
 obtain ⟨y0,y1,n,_,_,h0,h1⟩:=trod_struct2 (Tryz.underlying38) h
 have e0:Tryz.prog.cellsOf 24=3:=by kernel_rfl
 simp only [e0] at h0 h1
 exact ⟨cells_rat h0,cells_rat h1⟩
theorem row6 {l:List Value} (n:Nat) (f:Nat→Nat→Value) {j q:Nat} (sz:Nat) (hj:j < n) (hq:q < sz):(rowV sz n (fun j q=> .val (f j q))).getD (j*sz+q) undef=f j q:=by
 have h:=rowV_at (sz:=sz) (m:=n) (f:=fun j q=> .val (f j q)) (List.all_eq_true.2 fun i _=>rfl) hj hq
 exact (AV.val.inj h).symm
theorem arg_pts0 {fuel:Nat} {v:Value} {x:DataW H×List MemPlace} (h:DataW.trod enc Tryz.prog w 0 (fun _=>true) true fuel 22 [v]=some x):
  ∃ (n:Nat) (ps:List Value),ps.length=n*6∧okpN n ps=true∧(AV.lst false 38 n (vrow 6 ps)).Rel Tryz.prog NoA (fun _=>False) w NoD v:=by
 have ec:Tryz.prog.cellsOf 38=6:=by kernel_rfl
 obtain ⟨n,f,hn,hr,hx⟩:=slice_rel (e:=38) (by kernel_rfl) (by rw [ec];decide) h
 refine ⟨n,rowV 6 n (fun j q=> .val (f j q)),rowV_len _ _ _, ?_,row_normV (by kernel_rfl) (List.all_eq_true.2 fun i _=>rfl) hr⟩
 unfold okpN
 rw [Bool.and_eq_true,decide_eq_true_eq,List.all_eq_true]
 refine ⟨hn,fun j hj=> ?_⟩
 rw [List.mem_range] at hj
 obtain ⟨m,y,hy⟩:=hx j hj
 rw [ec] at hy
 obtain ⟨k1,k2⟩:=cells_pt (show DataW.trod enc Tryz.prog w 0 (fun _=>true) true m 38 [f j 0,f j 1,f j 2,f j 3,f j 4,f j 5]=some y from hy)
 unfold okP
 rw [row6 (l:= []) n f 6 hj (by decide),row6 (l:= []) n f 6 hj (by decide),row6 (l:= []) n f 6 hj (by decide),row6 (l:= []) n f 6 hj (by decide),row6 (l:= []) n f 6 hj (by decide),row6 (l:= []) n f 6 hj (by decide),k1,k2];rfl
theorem arg_pts {v:Value} {d:DataW H} {p:List MemPlace} (hv:∀ cs,v≠ .agg cs) (h:DataW.Trod enc Tryz.prog w 0 (fun _=>true) true 22 v d p):
  ∃ (n:Nat) (ps:List Value),ps.length=n*6∧okpN n ps=true∧(AV.lst false 38 n (vrow 6 ps)).Rel Tryz.prog NoA (fun _=>False) w NoD v:=by
 obtain ⟨n,hn⟩:=h
 have e:v.cells.toList= [v]:=by cases v <;> first | rfl | exact absurd rfl (hv _)
 rw [e] at hn
 exact arg_pts0 hn
end
end
end Go.Proofs.YtdnmkehncpfnnaaGreat.L
namespace Go.Proofs.YtdnmkehncpfnnaaGreat.L
open Go Go.V Go.RowKit Go.Proofs.YtdnmkehncpfnnaaGreat.Sp
open Go.Proofs (Tryz.prog)
noncomputable section
def CLg (T:Tg) (K:Hg) (C:FuncId→TF):FuncId→TF:=addC 9 (tGP T) (addC 10 (tGreat K) (addC 11 tAwS C))
def CLo (T:Tg) (K:Hg) (W:Wg) (Z:Qg) (M:Sm):FuncId→TF:=CLg T K (addC 12 (tMkO W Z) (addC 13 (tMkO W Z) (addC 14 (tSameO M) noC)))
def CLe (T:Tg) (K:Hg) (W:Wg):FuncId→TF:=CLg T K (addC 12 (tMkE W) (addC 13 (tMkE W) (addC 14 tSameE noC)))
theorem law_o (T:Tg) (K:Hg) (W:Wg) (Z:Qg) (M:Sm) (n:Nat) (ps:List Value) (sb:Bool) (sn sd:BA) (g:Int):letI q_1:=(rowV (6:Nat) n (vrow (6:Nat) ps));letI q_2:=(vrow (3:Nat) (W.tm n q_1 (Z.qv sb sn sd) g));
  (callA Tryz.prog ⟨CLo T K W Z M,Kall,noL⟩ 10 10 3 [.lst false 38 n (vrow 6 ps),w3 sb sn sd, .val (.int .i64 g)]=(bif okV (6:Nat) n (vrow (6:Nat) ps)&&T.okp n q_1 then (bif T.gp n q_1 then some (.val (.bool true)) else (bif K.gr sn sd then some (.val (.bool true)) else (bif okV (6:Nat) n (vrow (6:Nat) ps)&&(W.mo n q_1 sn sd&&decide (W.me n q_1 sb sn sd g=(0:Int))) then (bif okV (6:Nat) n (vrow (6:Nat) ps)&&(W.mo n q_1 sn sd&&decide (W.me n q_1 sb sn sd g=(0:Int))) then (bif okV (3:Nat) n q_2&&okV (6:Nat) n (vrow (6:Nat) q_1)&&(okV (3:Nat) n q_2&&okV (6:Nat) n (vrow (6:Nat) q_1)&&M.sm n (rowV (3:Nat) n q_2) n (rowV (6:Nat) n (vrow (6:Nat) q_1)) n (rowV (3:Nat) n q_2) n (rowV (6:Nat) n (vrow (6:Nat) q_1))) then some (.val (.bool true)) else none) else none) else none))) else none)):=by kernel_rfl
theorem law_e (T:Tg) (K:Hg) (W:Wg) (n:Nat) (ps:List Value) (sb:Bool) (sn sd:BA) (g:Int):callA Tryz.prog ⟨CLe T K W,Kall,noL⟩ 10 10 3 [.lst false 38 n (vrow 6 ps),w3 sb sn sd, .val (.int .i64 g)]=
  (bif okV (6:Nat) n (vrow (6:Nat) ps)&&T.okp n (rowV (6:Nat) n (vrow (6:Nat) ps)) then (bif T.gp n (rowV (6:Nat) n (vrow (6:Nat) ps)) then some (.val (.bool true)) else (bif K.gr sn sd then some (.val (.bool true)) else (bif okV (6:Nat) n (vrow (6:Nat) ps)&&(W.mo n (rowV (6:Nat) n (vrow (6:Nat) ps)) sn sd&& !decide (W.me n (rowV (6:Nat) n (vrow (6:Nat) ps)) sb sn sd g=(0:Int))) then (bif okV (6:Nat) n (vrow (6:Nat) ps)&&(W.mo n (rowV (6:Nat) n (vrow (6:Nat) ps)) sn sd&& !decide (W.me n (rowV (6:Nat) n (vrow (6:Nat) ps)) sb sn sd g=(0:Int))) then (bif decide (W.me n (rowV (6:Nat) n (vrow (6:Nat) ps)) sb sn sd g=W.me n (rowV (6:Nat) n (vrow (6:Nat) ps)) sb sn sd g) then some (.val (.bool true)) else some (.val (.bool false))) else none) else none))) else none):=by kernel_rfl
theorem CLo_ok:Meets Tryz.prog (CLo tg0 hg0 wg0 sq0 sm0):=((((((meets_none _).add eSameO).add eRMakes.1).add eMakes.1).add eAwakeS).add eGreat).add eGP
theorem CLe_ok:Meets Tryz.prog (CLe tg0 hg0 wg0):=((((((meets_none _).add eSameE).add eRMakes.2).add eMakes.2).add eAwakeS).add eGreat).add eGP
theorem gr_ok {n d:BA} (h:hg0.gr n d=false):hg0.ok n d=true:=by
 have h:(decide (12 < n.size) ||decide (12 < d.size))=false:=h
 rw [Bool.or_eq_false_iff,decide_eq_false_iff_not,decide_eq_false_iff_not] at h
 show (decide _&&decide _)=true
 rw [decide_eq_true (show n.size≤12 by omega),decide_eq_true (show d.size≤12 by omega)];rfl
theorem gp_out {n:Nat} {ps:List Value} (ho:okpN n ps=true) (h:¬ gpN n ps=true):okqN n ps=true∧(n≤10∨1000 < n)∧n≤1005:=by
 obtain ⟨h1,h2⟩:=okpN_out (show tg0.okp n ps=true from ho)
 unfold gpN at h
 rw [Bool.not_eq_true,Bool.or_eq_false_iff,Bool.or_eq_false_iff,Bool.and_eq_false_iff,decide_eq_false_iff_not,decide_eq_false_iff_not,decide_eq_false_iff_not] at h
 obtain ⟨h3,h4,h5⟩:=h
 refine ⟨?_,by omega,by omega⟩
 unfold okqN
 rw [Bool.and_eq_true,decide_eq_true_eq,List.all_eq_true]
 refine ⟨h1,fun j hj=> ?_⟩
 rw [List.mem_range] at hj
 have h6:=none_lt (Bool.eq_false_iff.1 h3) hj
 unfold grP at h6
 rw [Bool.or_eq_false_iff] at h6
 unfold okQ
 rw [h2 j hj,gr_ok h6.1,gr_ok h6.2];rfl
theorem make_true (n:Nat) (ps:List Value) (sb:Bool) (sn sd:BA) (g:Int) (hl:ps.length=n*6) (ho:okpN n ps=true):∃ (E:Env),Meets Tryz.prog E.C∧LoopsOk Tryz.prog E∧callA Tryz.prog E 10 10 3 [.lst false 38 n (vrow 6 ps),w3 sb sn sd, .val (.int .i64 g)]=some (.val (.bool true)):=by
 have ho1:tg0.okp n ps=true:=ho
 by_cases hgp:gpN n ps=true
 ·refine ⟨⟨CLe tg0 hg0 wg0,Kall,noL⟩,CLe_ok,loops_none, ?_⟩
  rw [law_e,rowV_vrow hl,okV_vrow,ho1,show tg0.gp n ps=true from hgp];rfl
 have hgp1:tg0.gp n ps=false:=Bool.eq_false_iff.2 hgp
 by_cases hgr:hg0.gr sn sd=true
 ·refine ⟨⟨CLe tg0 hg0 wg0,Kall,noL⟩,CLe_ok,loops_none, ?_⟩
  rw [law_e,rowV_vrow hl,okV_vrow,ho1,hgp1,hgr];rfl
 have hgr1:hg0.gr sn sd=false:=Bool.eq_false_iff.2 hgr
 obtain ⟨q1,q2,q3⟩:=gp_out ho hgp
 have hmo:wg0.mo n ps sn sd=true:=by
  show moN n ps sn sd=true
  unfold moN
  rw [q1,gr_ok hgr1,Bool.true_and,Bool.true_and,Bool.or_eq_true,decide_eq_true_eq,decide_eq_true_eq]
  exact q2
 by_cases he:wg0.me n ps sb sn sd g=0
 ·refine ⟨⟨CLo tg0 hg0 wg0 sq0 sm0,Kall,noL⟩,CLo_ok,loops_none, ?_⟩
  have hts:(wg0.tm n ps (sq0.qv sb sn sd) g).length=n*3:=cells3_len _ _
  have hsm:sm0.sm n (wg0.tm n ps (sq0.qv sb sn sd) g) n ps n (wg0.tm n ps (sq0.qv sb sn sd) g) n ps=true:=by
   refine smN_in ?_ ho
   unfold okTs
   rw [Bool.and_eq_true,decide_eq_true_eq,List.all_eq_true]
   refine ⟨by omega,fun j hj=> ?_⟩
   rw [List.mem_range] at hj
   show okT (cells3 n _) j=true
   unfold okT
   rw [cells3_b _ _ hj,cells3_n _ _ hj,cells3_d _ _ hj];rfl
  rw [law_o]
  simp only [rowV_vrow hl,rowV_vrow hts,okV_vrow,ho1,hgp1,hgr1,hmo,dT he,hsm,Bool.and_self,cond_true,cond_false]
 ·refine ⟨⟨CLe tg0 hg0 wg0,Kall,noL⟩,CLe_ok,loops_none, ?_⟩
  rw [law_e,rowV_vrow hl,okV_vrow,ho1,hgp1,hgr1,hmo,dF he,dT (show wg0.me n ps sb sn sd g=wg0.me n ps sb sn sd g from rfl)];rfl
theorem make_walk (n:Nat) (ps:List Value) (hl:ps.length=n*6) (ho:okpN n ps=true) (sb:Bool) (sn sd:BA) (g:Int) {q:Prop} (hq:q) (W:World) (v:Value) (hv:(AV.lst false 38 n (vrow 6 ps)).Rel Tryz.prog NoA (fun _=>False) W NoD v):Calls Tryz.prog 3 #[v, .agg #[.bool sb, .string sn, .string sd], .int .i64 g] W fun e w'=>e= .returned (.bool true)∧Below W.heap.size W w':=by
 obtain ⟨E,h1,h2,h3⟩:=make_true n ps sb sn sd g hl ho
 exact law_walk h1 h2 (by kernel_rfl) h3 W ⟨_,_,rfl,hv,_,_,rfl,arg_rat _ _ sb sn sd,_,_,rfl,rfl,rfl⟩
end
end Go.Proofs.YtdnmkehncpfnnaaGreat.L
