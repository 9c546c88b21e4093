import Derived.Test.YtdnmkehncpfnnaaGreatZHW
import Derived.Test.YtdnmkehncpfnnaaGreatZIA
set_option linter.unusedVariables false
set_option linter.unusedSimpArgs false
namespace Go.Proofs.YtdnmkehncpfnnaaGreat.L
open Go Go.V Go.RowKit Go.Proofs.YtdnmkehncpfnnaaGreat.Sp
open Go.Proofs (Tryz.prog)
noncomputable section
def rcT:Rec:= ⟨slots 50 [(3, .ptr 1 0),(6, .ptr 5 0)],#[31,32],26, [false,true,false,true,true,true,true], .ready,none⟩
def recTT:AV→Nat→Bool
 | .any,i=> !(i==3 ||i==6)
 | .ptr a b,i=>(i==3&&a==1 ||i==6&&a==5)&&b==0
 | _,_=>false
def recOkT (r:Rec):Bool:=(r.T.length==50&&(List.range 50).all fun i=>recTT (lget r.T i) i)&&(r.params== #[31,32]&&(r.g==26&&(r.path== [false,true,false,true,true,true,true]&&((match r.st with | .ready=>true | _=>false)&&r.pend.isNone))))
theorem recTT_out {i:Nat} {v:AV} (h:recTT v i=true):v=if i=3 then .ptr 1 0 else if i=6 then .ptr 5 0 else .any:=by
 unfold recTT at h
 split at h
 ·rw [Bool.not_eq_true',Bool.or_eq_false_iff,beq_eq_false_iff_ne,beq_eq_false_iff_ne] at h
  rw [if_neg h.1,if_neg h.2]
 ·rw [Bool.and_eq_true,Bool.or_eq_true,Bool.and_eq_true,Bool.and_eq_true,beq_iff_eq,beq_iff_eq,beq_iff_eq,beq_iff_eq,beq_iff_eq] at h
  obtain ⟨⟨rfl,rfl⟩ | ⟨rfl,rfl⟩,rfl⟩:=h
  ·rw [if_pos rfl]
  ·rw [if_neg (by decide),if_pos rfl]
 ·cases h
theorem recOkT_out {r:Rec} (h:recOkT r=true):r=rcT:=by
 obtain ⟨T,ps,g,p,st,pd⟩:=r
 unfold recOkT at h
 simp only [Bool.and_eq_true,beq_iff_eq] at h
 obtain ⟨⟨h1,h2⟩,rfl,rfl,rfl,h3,h4⟩:=h
 have e1:st= .ready:=by cases st <;> first | rfl | cases h3
 have e2:pd=none:=by cases pd <;> first | rfl | cases h4
 subst e1 e2
 unfold rcT
 congr 1
 apply List.ext_getElem?
 intro i
 by_cases hi:i < 50
 ·have h5:=recTT_out (List.all_eq_true.1 h2 i (List.mem_range.2 hi))
  rw [lget_eq,List.getElem?_eq_getElem (show i < T.length by omega),Option.getD_some] at h5
  rw [List.getElem?_eq_getElem (show i < T.length by omega),h5]
  unfold slots
  rw [List.getElem?_map,List.getElem?_range hi,Option.map_some]
  show _=some (slotAt [(3,AV.ptr 1 0),(6,AV.ptr 5 0)] i)
  unfold slotAt slotAt slotAt
  by_cases h6:i=3
  ·subst h6;rfl
  ·by_cases h7:i=6
   ·subst h7;rfl
   ·rw [if_neg h6,if_neg h7,show ((3:Nat)==i)=false from beq_eq_false_iff_ne.2 (Ne.symm h6),show ((6:Nat)==i)=false from beq_eq_false_iff_ne.2 (Ne.symm h7)];rfl
 ·rw [List.getElem?_eq_none (by omega),List.getElem?_eq_none (by unfold slots;simp;omega)]
def ESt (K:Hg) (Z:Qg):Env:= ⟨addC 17 (gRR (tQSub Z)) (addC 71 (gPP (tVSub K Z)) (addC 18 (tQMul Z) (addC 19 (gRR (tQAdd Z)) noC))),fun _=>false,noL⟩
abbrev p_st:List Bool:= [false,true]
def sh_st (i:Int) (n0:Nat) (f0:Nat→Nat→AV) (m0:Nat) (g0:Nat→Nat→AV) (xb:Bool) (xn:ByteArray) (xd:ByteArray) (cs:List Value) (k:Nat) (pn:Nat) (n:Nat) (ts:List Value) (m:Nat) (ps:List Value) (us:List Value):List AV:=slots 40 [(0, .yld 7),(1, .ptr 6 0),(3, .val (.int .i64 i))]
def hp_st (i:Int) (n0:Nat) (f0:Nat→Nat→AV) (m0:Nat) (g0:Nat→Nat→AV) (xb:Bool) (xn:ByteArray) (xd:ByteArray) (cs:List Value) (k:Nat) (pn:Nat) (n:Nat) (ts:List Value) (m:Nat) (ps:List Value) (us:List Value):Hp:= [.row (.cells [.lst false 24 n0 f0,.lst false 38 m0 g0]) 30 .live, .row (.cells [.val (.bool xb), .val (.string xn), .val (.string xd)]) 24 .live, .row (.cells [.val (.slice none 0 0),.val (.slice none 0 0)]) 30 .live, .row (.cells []) 38 .live, .row (.vals cs) 38 .live, .row (.cells [.sl false 24 8 0 k,.sl false 38 4 0 pn]) 30 .live, .row (.cells [.lst false 24 n (vrow 3 ts), .lst false 38 m (vrow 6 ps)]) 30 .live, .loop rcT, .row (.vals us) 24 .live]
theorem code_st:subC Tryz.prog 118 (false :: p_st)=some (lb 118 p_st):=by kernel_rfl
theorem round_st (K:Hg) (Z:Qg) (i:Int) (n0:Nat) (f0:Nat→Nat→AV) (m0:Nat) (g0:Nat→Nat→AV) (xb:Bool) (xn:ByteArray) (xd:ByteArray) (cs:List Value) (k:Nat) (pn:Nat) (n:Nat) (ts:List Value) (m:Nat) (ps:List Value) (us:List Value):letI q_11:=(ts.getD (i.toNat*(3:Nat)+(1:Nat)) undef);letI q_12:=(ts.getD (i.toNat*(3:Nat)+(2:Nat)) undef);letI q_9:=(ts.getD ((i - (1:Int)).toNat*(3:Nat)+(1:Nat)) undef);letI q_10:=(ts.getD ((i - (1:Int)).toNat*(3:Nat)+(2:Nat)) undef);letI q_1:=(Z.qv (asB (ts.getD (i.toNat*(3:Nat)+(0:Nat)) undef)) (asS q_11) (asS q_12) - Z.qv (asB (ts.getD ((i - (1:Int)).toNat*(3:Nat)+(0:Nat)) undef)) (asS q_9) (asS q_10));letI q_8:=(Rec.mk rcT.T rcT.params (26:Nat) rcT.path LoopState.busy rcT.pend);letI q_2:=(Rec.mk q_8.T q_8.params (26:Nat) q_8.path LoopState.ready none);letI q_7:=(us.getD ((0:Nat)+(i - (1:Int)).toNat*(3:Nat)+(1:Nat)) undef);letI q_6:=(us.getD ((0:Nat)+(i - (1:Int)).toNat*(3:Nat)+(1:Nat)+(1:Nat)) undef);letI q_4:=(Z.qv (Z.qn q_1) (Z.qs q_1) (Z.qd q_1)*Z.qv xb xn xd);letI q_3:=(Z.qv (asB (us.getD ((0:Nat)+(i - (1:Int)).toNat*(3:Nat)) undef)) (asS q_7) (asS q_6)+Z.qv (Z.qn q_4) (Z.qs q_4) (Z.qd q_4));letI q_5:=(recMask [(0:Nat),(1:Nat),(3:Nat),(1003:Nat),(1006:Nat)]);
  (roundF Tryz.prog (ESt K Z) 8 118 [0,1,3,1003,1006] (lb 118 p_st) (false :: p_st) (sh_st i n0 f0 m0 g0 xb xn xd cs k pn n ts m ps us) (hp_st i n0 f0 m0 g0 xb xn xd cs k pn n ts m ps us)=(bif decide (i < (↑n:Int)) then (bif decide ((0:Int)≤i)&&decide (i < (↑n:Int)) then (bif inR IntKind.i64 (i - (1:Int)) then (bif decide ((0:Int)≤i - (1:Int))&&decide (i - (1:Int) < (↑n:Int)) then (bif isRat (ts.getD (i.toNat*(3:Nat)+(0:Nat)) undef) q_11 q_12&&isRat (ts.getD ((i - (1:Int)).toNat*(3:Nat)+(0:Nat)) undef) q_9 q_10&&(Z.ok (asS q_11) (asS q_12)&&Z.ok (asS q_9) (asS q_10)) then (bif decide ((0:Int)≤i)&&decide (i < (↑m:Int)) then (bif inR IntKind.i64 (i - (1:Int)) then (bif decide ((0:Int)≤i - (1:Int))&&decide (i - (1:Int) < (↑m:Int)) then (bif isRat (ps.getD (i.toNat*(6:Nat)+(0:Nat)) undef) (ps.getD (i.toNat*(6:Nat)+(1:Nat)) undef) (ps.getD (i.toNat*(6:Nat)+(2:Nat)) undef)&&isRat (ps.getD (i.toNat*(6:Nat)+(3:Nat)) undef) (ps.getD (i.toNat*(6:Nat)+(4:Nat)) undef) (ps.getD (i.toNat*(6:Nat)+(5:Nat)) undef)&&(isRat (ps.getD ((i - (1:Int)).toNat*(6:Nat)+(0:Nat)) undef) (ps.getD ((i - (1:Int)).toNat*(6:Nat)+(1:Nat)) undef) (ps.getD ((i - (1:Int)).toNat*(6:Nat)+(2:Nat)) undef)&&isRat (ps.getD ((i - (1:Int)).toNat*(6:Nat)+(3:Nat)) undef) (ps.getD ((i - (1:Int)).toNat*(6:Nat)+(4:Nat)) undef) (ps.getD ((i - (1:Int)).toNat*(6:Nat)+(5:Nat)) undef))&&(K.ok (asS (ps.getD (i.toNat*(6:Nat)+(1:Nat)) undef)) (asS (ps.getD (i.toNat*(6:Nat)+(2:Nat)) undef))&&K.ok (asS (ps.getD (i.toNat*(6:Nat)+(4:Nat)) undef)) (asS (ps.getD (i.toNat*(6:Nat)+(5:Nat)) undef))&&K.ok (asS (ps.getD ((i - (1:Int)).toNat*(6:Nat)+(1:Nat)) undef)) (asS (ps.getD ((i - (1:Int)).toNat*(6:Nat)+(2:Nat)) undef))&&K.ok (asS (ps.getD ((i - (1:Int)).toNat*(6:Nat)+(4:Nat)) undef)) (asS (ps.getD ((i - (1:Int)).toNat*(6:Nat)+(5:Nat)) undef))) then (bif inR IntKind.i64 (i - (1:Int)) then (bif decide ((0:Int)≤i - (1:Int))&&decide (i - (1:Int) < (↑k:Int)) then (bif decide ((0:Nat)+(i - (1:Int)).toNat*(3:Nat) < us.length) then (bif decide ((0:Nat)+(i - (1:Int)).toNat*(3:Nat)+(1:Nat) < us.length) then (bif decide ((0:Nat)+(i - (1:Int)).toNat*(3:Nat)+(1:Nat)+(1:Nat) < us.length) then (bif Z.ok (Z.qs q_1) (Z.qd q_1)&&Z.ok xn xd then (bif isRat (us.getD ((0:Nat)+(i - (1:Int)).toNat*(3:Nat)) undef) q_7 q_6&&true&&(Z.ok (asS q_7) (asS q_6)&&Z.ok (Z.qs q_4) (Z.qd q_4)) then (bif decide (k*(3:Nat)≤(Cont.vals us).len)&&roomA Tryz.prog (k+(1:Nat)) (24:Nat)&&true then (bif inR IntKind.i64 (i+(1:Int)) then some (.normal,slots 40 [(0,(.yld 7)),(1,(.ptr 6 0)),(3,(.val (.int .i64 (i+(1:Int)))))], [(.row (.cells [(.lst false 24 n0 (f0)),(.lst false 38 m0 (g0))]) 30 .live),(.row (.cells [(.val (.bool xb)),(.val (.string xn)),(.val (.string xd))]) 24 .live),(.row (.cells [(.val (.slice .none 0 0)),(.val (.slice .none 0 0))]) 30 .live),(.row (.cells []) 38 .live),(.row (.vals cs) 38 .live),(.row (.cells [(.sl false 24 8 0 (k+(1:Nat))),(.sl false 38 4 0 pn)]) 30 .live),(.row (.cells [(.lst false 24 n (vrow (3:Nat) ts)),(.lst false 38 m (vrow (6:Nat) ps))]) 30 .live),(.loop (.mk [.any, .any, .any,(.ptr 1 0), .any, .any,(.ptr 5 0), .any, .any, .any, .any, .any, .any, .any, .any, .any, .any, .any, .any, .any, .any, .any, .any, .any, .any, .any, .any, .any, .any, .any, .any, .any, .any, .any, .any, .any, .any, .any, .any, .any, .any, .any, .any, .any, .any, .any, .any, .any, .any, .any] ((Rec.mk (maskA q_5 q_2.T) q_2.params (26:Nat) q_2.path q_2.st q_2.pend).params) 26 ((Rec.mk (maskA q_5 q_2.T) q_2.params (26:Nat) q_2.path q_2.st q_2.pend).path) .ready .none)),(.row (.vals ((List.take (k*(3:Nat)) us) ++ ([(.bool (Z.qn q_3)),(.string (Z.qs q_3)),(.string (Z.qd q_3))]:List Value))) 24 .live)]) else none) else none) else none) else none) else none) else none) else none) else none) else none) else none) else none) else none) else none) else none) else none) else none) else none) else some ((.exit 0),slots 40 [(0,(.yld 7)),(1,(.ptr 6 0)),(3,(.val (.int .i64 i)))], [(.row (.cells [(.lst false 24 n0 (f0)),(.lst false 38 m0 (g0))]) 30 .live),(.row (.cells [(.val (.bool xb)),(.val (.string xn)),(.val (.string xd))]) 24 .live),(.row (.cells [(.val (.slice .none 0 0)),(.val (.slice .none 0 0))]) 30 .live),(.row (.cells []) 38 .live),(.row (.vals cs) 38 .live),(.row (.cells [(.sl false 24 8 0 k),(.sl false 38 4 0 pn)]) 30 .live),(.row (.cells [(.lst false 24 n (vrow (3:Nat) ts)),(.lst false 38 m (vrow (6:Nat) ps))]) 30 .live),(.loop (.mk [.any, .any, .any,(.ptr 1 0), .any, .any,(.ptr 5 0), .any, .any, .any, .any, .any, .any, .any, .any, .any, .any, .any, .any, .any, .any, .any, .any, .any, .any, .any, .any, .any, .any, .any, .any, .any, .any, .any, .any, .any, .any, .any, .any, .any, .any, .any, .any, .any, .any, .any, .any, .any, .any, .any] ((Rec.mk (maskA q_5 rcT.T) rcT.params (26:Nat) rcT.path rcT.st rcT.pend).params) 26 ((Rec.mk (maskA q_5 rcT.T) rcT.params (26:Nat) rcT.path rcT.st rcT.pend).path) .ready .none)),(.row (.vals us) 24 .live)]))):=by kernel_rfl
theorem step_st {i:Int} {n0:Nat} {f0:Nat→Nat→AV} {m0:Nat} {g0:Nat→Nat→AV} {xb:Bool} {xn:ByteArray} {xd:ByteArray} {cs:List Value} {k:Nat} {pn:Nat} {n:Nat} {ts:List Value} {m:Nat} {ps:List Value} {us:List Value} {e:Ex} {T:List AV} {H:Hp} (h:roundF Tryz.prog (ESt hg0 sq0) 8 118 [0,1,3,1003,1006] (lb 118 p_st) (false :: p_st) (sh_st i n0 f0 m0 g0 xb xn xd cs k pn n ts m ps us) (hp_st i n0 f0 m0 g0 xb xn xd cs k pn n ts m ps us)=some (e,T,H)):V.Ends Tryz.prog false 8 0 (lb 118 p_st) (sh_st i n0 f0 m0 g0 xb xn xd cs k pn n ts m ps us) (hp_st i n0 f0 m0 g0 xb xn xd cs k pn n ts m ps us) e T H:=
 round_endsF (((((meets_none _).add eQAdd.gRR).add eQMul).add eVSub.gPP).add eQSub.gRR) loops_none mixed code_st h
abbrev p_s0:List Bool:= [false,true]
def sh_s0 (i:Int) (n0:Nat) (f0:Nat→Nat→AV) (m0:Nat) (g0:Nat→Nat→AV) (xb:Bool) (xn:ByteArray) (xd:ByteArray) (cs:List Value) (t0:List Value) (pn:Nat) (n:Nat) (ts:List Value) (m:Nat) (ps:List Value):List AV:=slots 40 [(0, .yld 7),(1, .ptr 6 0),(3, .val (.int .i64 i))]
def hp_s0 (i:Int) (n0:Nat) (f0:Nat→Nat→AV) (m0:Nat) (g0:Nat→Nat→AV) (xb:Bool) (xn:ByteArray) (xd:ByteArray) (cs:List Value) (t0:List Value) (pn:Nat) (n:Nat) (ts:List Value) (m:Nat) (ps:List Value):Hp:= [.row (.cells [.lst false 24 n0 f0,.lst false 38 m0 g0]) 30 .live, .row (.cells [.val (.bool xb), .val (.string xn), .val (.string xd)]) 24 .live, .row (.cells [.val (.slice none 0 0),.val (.slice none 0 0)]) 30 .live, .row (.cells []) 38 .live, .row (.vals cs) 38 .live, .row (.cells [.lst true 24 1 (vrow 3 t0), .sl false 38 4 0 pn]) 30 .live, .row (.cells [.lst false 24 n (vrow 3 ts), .lst false 38 m (vrow 6 ps)]) 30 .live, .loop rcT]
theorem body_s0:subC Tryz.prog 118 p_s0=some (.loop (lb 118 p_s0)):=by kernel_rfl
theorem code_s0:subC Tryz.prog 118 (false :: p_s0)=some (lb 118 p_s0):=by kernel_rfl
theorem round_s0 (K:Hg) (Z:Qg) (i:Int) (n0:Nat) (f0:Nat→Nat→AV) (m0:Nat) (g0:Nat→Nat→AV) (xb:Bool) (xn:ByteArray) (xd:ByteArray) (cs:List Value) (t0:List Value) (pn:Nat) (n:Nat) (ts:List Value) (m:Nat) (ps:List Value):letI q_10:=(ts.getD (i.toNat*(3:Nat)+(1:Nat)) undef);letI q_11:=(ts.getD (i.toNat*(3:Nat)+(2:Nat)) undef);letI q_9:=((i - (1:Int)).toNat*(3:Nat)+(0:Nat));letI q_4:=((i - (1:Int)).toNat*(3:Nat)+(1:Nat));letI q_5:=((i - (1:Int)).toNat*(3:Nat)+(2:Nat));letI q_1:=(Z.qv (asB (ts.getD (i.toNat*(3:Nat)+(0:Nat)) undef)) (asS q_10) (asS q_11) - Z.qv (asB (ts.getD q_9 undef)) (asS (ts.getD q_4 undef)) (asS (ts.getD q_5 undef)));letI q_8:=(Rec.mk rcT.T rcT.params (26:Nat) rcT.path LoopState.busy rcT.pend);letI q_2:=(Rec.mk q_8.T q_8.params (26:Nat) q_8.path LoopState.ready none);letI q_6:=(Z.qv (Z.qn q_1) (Z.qs q_1) (Z.qd q_1)*Z.qv xb xn xd);letI q_3:=(Z.qv (asB (t0.getD q_9 undef)) (asS (t0.getD q_4 undef)) (asS (t0.getD q_5 undef))+Z.qv (Z.qn q_6) (Z.qs q_6) (Z.qd q_6));letI q_7:=(recMask [(0:Nat),(1:Nat),(3:Nat),(1003:Nat),(1006:Nat)]);
  (roundF Tryz.prog (ESt K Z) 8 118 [0,1,3,1003,1006] (lb 118 p_s0) (false :: p_s0) (sh_s0 i n0 f0 m0 g0 xb xn xd cs t0 pn n ts m ps) (hp_s0 i n0 f0 m0 g0 xb xn xd cs t0 pn n ts m ps)=(bif decide (i < (↑n:Int)) then (bif decide ((0:Int)≤i)&&decide (i < (↑n:Int)) then (bif inR IntKind.i64 (i - (1:Int)) then (bif decide ((0:Int)≤i - (1:Int))&&decide (i - (1:Int) < (↑n:Int)) then (bif isRat (ts.getD (i.toNat*(3:Nat)+(0:Nat)) undef) q_10 q_11&&isRat (ts.getD q_9 undef) (ts.getD q_4 undef) (ts.getD q_5 undef)&&(Z.ok (asS q_10) (asS q_11)&&Z.ok (asS (ts.getD q_4 undef)) (asS (ts.getD q_5 undef))) then (bif decide ((0:Int)≤i)&&decide (i < (↑m:Int)) then (bif inR IntKind.i64 (i - (1:Int)) then (bif decide ((0:Int)≤i - (1:Int))&&decide (i - (1:Int) < (↑m:Int)) then (bif isRat (ps.getD (i.toNat*(6:Nat)+(0:Nat)) undef) (ps.getD (i.toNat*(6:Nat)+(1:Nat)) undef) (ps.getD (i.toNat*(6:Nat)+(2:Nat)) undef)&&isRat (ps.getD (i.toNat*(6:Nat)+(3:Nat)) undef) (ps.getD (i.toNat*(6:Nat)+(4:Nat)) undef) (ps.getD (i.toNat*(6:Nat)+(5:Nat)) undef)&&(isRat (ps.getD ((i - (1:Int)).toNat*(6:Nat)+(0:Nat)) undef) (ps.getD ((i - (1:Int)).toNat*(6:Nat)+(1:Nat)) undef) (ps.getD ((i - (1:Int)).toNat*(6:Nat)+(2:Nat)) undef)&&isRat (ps.getD ((i - (1:Int)).toNat*(6:Nat)+(3:Nat)) undef) (ps.getD ((i - (1:Int)).toNat*(6:Nat)+(4:Nat)) undef) (ps.getD ((i - (1:Int)).toNat*(6:Nat)+(5:Nat)) undef))&&(K.ok (asS (ps.getD (i.toNat*(6:Nat)+(1:Nat)) undef)) (asS (ps.getD (i.toNat*(6:Nat)+(2:Nat)) undef))&&K.ok (asS (ps.getD (i.toNat*(6:Nat)+(4:Nat)) undef)) (asS (ps.getD (i.toNat*(6:Nat)+(5:Nat)) undef))&&K.ok (asS (ps.getD ((i - (1:Int)).toNat*(6:Nat)+(1:Nat)) undef)) (asS (ps.getD ((i - (1:Int)).toNat*(6:Nat)+(2:Nat)) undef))&&K.ok (asS (ps.getD ((i - (1:Int)).toNat*(6:Nat)+(4:Nat)) undef)) (asS (ps.getD ((i - (1:Int)).toNat*(6:Nat)+(5:Nat)) undef))) then (bif inR IntKind.i64 (i - (1:Int)) then (bif decide ((0:Int)≤i - (1:Int))&&decide (i - (1:Int) < (1:Int)) then (bif Z.ok (Z.qs q_1) (Z.qd q_1)&&Z.ok xn xd then (bif isRat (t0.getD q_9 undef) (t0.getD q_4 undef) (t0.getD q_5 undef)&&true&&(Z.ok (asS (t0.getD q_4 undef)) (asS (t0.getD q_5 undef))&&Z.ok (Z.qs q_6) (Z.qd q_6)) then (bif inR IntKind.i64 (i+(1:Int)) then some (.normal,slots 40 [(0,(.yld 7)),(1,(.ptr 6 0)),(3,(.val (.int .i64 (i+(1:Int)))))], [(.row (.cells [(.lst false 24 n0 (f0)),(.lst false 38 m0 (g0))]) 30 .live),(.row (.cells [(.val (.bool xb)),(.val (.string xn)),(.val (.string xd))]) 24 .live),(.row (.cells [(.val (.slice .none 0 0)),(.val (.slice .none 0 0))]) 30 .live),(.row (.cells []) 38 .live),(.row (.vals cs) 38 .live),(.row (.cells [(.sl false 24 8 0 2),(.sl false 38 4 0 pn)]) 30 .live),(.row (.cells [(.lst false 24 n (vrow (3:Nat) ts)),(.lst false 38 m (vrow (6:Nat) ps))]) 30 .live),(.loop (.mk [.any, .any, .any,(.ptr 1 0), .any, .any,(.ptr 5 0), .any, .any, .any, .any, .any, .any, .any, .any, .any, .any, .any, .any, .any, .any, .any, .any, .any, .any, .any, .any, .any, .any, .any, .any, .any, .any, .any, .any, .any, .any, .any, .any, .any, .any, .any, .any, .any, .any, .any, .any, .any, .any, .any] ((Rec.mk (maskA q_7 q_2.T) q_2.params (26:Nat) q_2.path q_2.st q_2.pend).params) 26 ((Rec.mk (maskA q_7 q_2.T) q_2.params (26:Nat) q_2.path q_2.st q_2.pend).path) .ready .none)),(.row (.vals ((List.take 3 ([(t0.getD (0:Nat) undef),(t0.getD (1:Nat) undef),(t0.getD (2:Nat) undef)]:List Value)) ++ ([(.bool (Z.qn q_3)),(.string (Z.qs q_3)),(.string (Z.qd q_3))]:List Value))) 24 .live)]) else none) else none) else none) else none) else none) else none) else none) else none) else none) else none) else none) else none) else none) else some ((.exit 0),slots 40 [(0,(.yld 7)),(1,(.ptr 6 0)),(3,(.val (.int .i64 i)))], [(.row (.cells [(.lst false 24 n0 (f0)),(.lst false 38 m0 (g0))]) 30 .live),(.row (.cells [(.val (.bool xb)),(.val (.string xn)),(.val (.string xd))]) 24 .live),(.row (.cells [(.val (.slice .none 0 0)),(.val (.slice .none 0 0))]) 30 .live),(.row (.cells []) 38 .live),(.row (.vals cs) 38 .live),(.row (.cells [(.lst true 24 1 (vrow (3:Nat) t0)),(.sl false 38 4 0 pn)]) 30 .live),(.row (.cells [(.lst false 24 n (vrow (3:Nat) ts)),(.lst false 38 m (vrow (6:Nat) ps))]) 30 .live),(.loop (.mk [.any, .any, .any,(.ptr 1 0), .any, .any,(.ptr 5 0), .any, .any, .any, .any, .any, .any, .any, .any, .any, .any, .any, .any, .any, .any, .any, .any, .any, .any, .any, .any, .any, .any, .any, .any, .any, .any, .any, .any, .any, .any, .any, .any, .any, .any, .any, .any, .any, .any, .any, .any, .any, .any, .any] ((Rec.mk (maskA q_7 rcT.T) rcT.params (26:Nat) rcT.path rcT.st rcT.pend).params) 26 ((Rec.mk (maskA q_7 rcT.T) rcT.params (26:Nat) rcT.path rcT.st rcT.pend).path) .ready .none))]))):=by kernel_rfl
theorem step_s0 {i:Int} {n0:Nat} {f0:Nat→Nat→AV} {m0:Nat} {g0:Nat→Nat→AV} {xb:Bool} {xn:ByteArray} {xd:ByteArray} {cs:List Value} {t0:List Value} {pn:Nat} {n:Nat} {ts:List Value} {m:Nat} {ps:List Value} {e:Ex} {T:List AV} {H:Hp} (h:roundF Tryz.prog (ESt hg0 sq0) 8 118 [0,1,3,1003,1006] (lb 118 p_s0) (false :: p_s0) (sh_s0 i n0 f0 m0 g0 xb xn xd cs t0 pn n ts m ps) (hp_s0 i n0 f0 m0 g0 xb xn xd cs t0 pn n ts m ps)=some (e,T,H)):V.Ends Tryz.prog false 8 0 (lb 118 p_s0) (sh_s0 i n0 f0 m0 g0 xb xn xd cs t0 pn n ts m ps) (hp_s0 i n0 f0 m0 g0 xb xn xd cs t0 pn n ts m ps) e T H:=
 round_endsF (((((meets_none _).add eQAdd.gRR).add eQMul).add eVSub.gPP).add eQSub.gRR) loops_none mixed code_s0 h
theorem cells3_bx (n:Nat) (q:Nat→Rat) {j:Nat} (hj:j < n):(cells3 n q).getD (j*3) undef= .bool (sq0.qn (q j)):=cells3_b n q hj
theorem cells3_dx (n:Nat) (q:Nat→Rat) {j:Nat} (hj:j < n):(cells3 n q).getD (j*3+1+1) undef= .string (sq0.qd (q j)):=cells3_d n q hj
def stR (ts:List Value) (x:Rat):Nat→Rat
 | 0=>qt ts 0
 | j+1=>stR ts x j+(qt ts (j+1) - qt ts j)*x
theorem stR_eq (ts:List Value) (x:Rat) (j:Nat):stR ts x j=qt ts 0+(qt ts j - qt ts 0)*x:=by
 induction j with
 | zero=>
  show qt ts 0=_
  grind
 | succ j ih=>
  show stR ts x j+(qt ts (j+1) - qt ts j)*x=_
  rw [ih];grind
theorem okm_sz {b:Bool} {n d:BA} (h:okm n d=true):szq (sq0.qv b n d)≤1000:=by
 have:=okm_out h
 have:=szq_val b n d
 omega
theorem stR_sz {n:Nat} {ts ps:List Value} (h:PlOk n ts n ps) {xb:Bool} {xn xd:BA} (ho:okm xn xd=true) (j:Nat) (hj:j < n):szq (stR ts (sq0.qv xb xn xd) j)≤4002:=by
 have h1:=okX_sz (h.ts.ok j hj)
 have h2:=okX_sz (h.ts.ok 0 h.pos)
 have h3:=okm_sz (b:=xb) ho
 have h4:=szq_sub (qt ts j) (qt ts 0)
 have h5:=szq_mul (qt ts j - qt ts 0) (sq0.qv xb xn xd)
 have h6:=szq_add (qt ts 0) ((qt ts j - qt ts 0)*sq0.qv xb xn xd)
 rw [stR_eq]
 omega
section
variable {n0 : Nat} {f0 : Nat → Nat → AV} {m0 : Nat} {g0 : Nat → Nat → AV} {xb : Bool} {xn xd : BA} {cs : List Value} {pn n : Nat} {ts ps : List Value}
theorem st_step (h:PlOk n ts n ps) (ho:okm xn xd=true) (j:Nat) (hj:j+1 < n):V.Ends Tryz.prog false 8 0 (lb 118 p_st) (sh_st ((j+1:Nat):Int) n0 f0 m0 g0 xb xn xd cs (j+1) pn n ts n ps (cells3 (j+1) (stR ts (sq0.qv xb xn xd)))) (hp_st ((j+1:Nat):Int) n0 f0 m0 g0 xb xn xd cs (j+1) pn n ts n ps (cells3 (j+1) (stR ts (sq0.qv xb xn xd)))) .normal (sh_st ((j+1+1:Nat):Int) n0 f0 m0 g0 xb xn xd cs (j+1+1) pn n ts n ps (cells3 (j+1+1) (stR ts (sq0.qv xb xn xd)))) (hp_st ((j+1+1:Nat):Int) n0 f0 m0 g0 xb xn xd cs (j+1+1) pn n ts n ps (cells3 (j+1+1) (stR ts (sq0.qv xb xn xd)))):=by
 have hlim:=h.ts.lim
 obtain ⟨a1,a2⟩:=okX_out (h.ts.ok j (by omega))
 obtain ⟨b1,b2⟩:=okX_out (h.ts.ok (j+1) hj)
 obtain ⟨⟨c1,c2⟩,c3,c4⟩:=okQ_out (h.pts j (by omega))
 obtain ⟨⟨d1,d2⟩,d3,d4⟩:=okQ_out (h.pts (j+1) hj)
 obtain ⟨_,_,_,s4,_,_⟩:=sd_sz h hj
 have sx:=okm_sz (b:=xb) ho
 have s5:=szq_mul (qt ts (j+1) - qt ts j) (sq0.qv xb xn xd)
 have s6:=stR_sz (xb:=xb) h ho j (by omega)
 have t2:stR ts (sq0.qv xb xn xd) (j+1)=stR ts (sq0.qv xb xn xd) j+(qt ts (j+1) - qt ts j)*sq0.qv xb xn xd:=rfl
 have e1:((j+1:Nat):Int) - 1=(j:Int):=by omega
 have hr:=round_st hg0 sq0 ((j+1:Nat):Int) n0 f0 m0 g0 xb xn xd cs (j+1) pn n ts n ps (cells3 (j+1) (stR ts (sq0.qv xb xn xd)))
 have b5:=cells3_bx (j+1) (stR ts (sq0.qv xb xn xd)) (show j < j+1 by omega)
 have b6:=cells3_n (j+1) (stR ts (sq0.qv xb xn xd)) (show j < j+1 by omega)
 have b7:=cells3_dx (j+1) (stR ts (sq0.qv xb xn xd)) (show j < j+1 by omega)
 have b8:=cells3_len (j+1) (stR ts (sq0.qv xb xn xd))
 simp only [e1,Int.toNat_natCast,Nat.zero_add,qt_eq,qv_rat,b5,b6,b7,b8,asB_bool,asS_str,isRat_mk] at hr
 rw [dT (show ((j+1:Nat):Int) < (n:Int) by omega),dT (show (0:Int)≤((j+1:Nat):Int) by omega),i64T (z:=(j:Int)) (by omega),dT (show (0:Int)≤(j:Int) by omega),dT (show (j:Int) < (n:Int) by omega),a1,okm_q a2,b1,okm_q b2,c1,c2,c3,c4,d1,d2,d3,d4,
  ok_rat (q:=qt ts (j+1) - qt ts j) (by omega),okm_q ho,ok_rat (q:=(qt ts (j+1) - qt ts j)*sq0.qv xb xn xd) (by omega),ok_rat (q:=stR ts (sq0.qv xb xn xd) j) (by omega),i64T (z:=((j+1:Nat):Int)+1) (by omega),dT (show (j:Int) < ((j+1:Nat):Int) by omega),dT (show j*3 < (j+1)*3 by omega),dT (show j*3+1 < (j+1)*3 by omega),dT (show j*3+1+1 < (j+1)*3 by omega),room_rat' (show j+1+1≤2000 by omega),
  dT (show (j+1)*3≤(Cont.vals (cells3 (j+1) (stR ts (sq0.qv xb xn xd)))).len from Nat.le_of_eq b8.symm),List.take_of_length_le (Nat.le_of_eq b8),← t2] at hr
 rw [cells3_succ (j+1)]
 exact step_st hr
theorem st_go (h:PlOk n ts n ps) (ho:okm xn xd=true) (k:Nat):∀ j,n=j+1+k→LoopToB Tryz.prog 8 (lb 118 p_st) (sh_st ((j+1:Nat):Int) n0 f0 m0 g0 xb xn xd cs (j+1) pn n ts n ps (cells3 (j+1) (stR ts (sq0.qv xb xn xd)))) (hp_st ((j+1:Nat):Int) n0 f0 m0 g0 xb xn xd cs (j+1) pn n ts n ps (cells3 (j+1) (stR ts (sq0.qv xb xn xd)))) (.exit 0) (sh_st (n:Int) n0 f0 m0 g0 xb xn xd cs n pn n ts n ps (cells3 n (stR ts (sq0.qv xb xn xd)))) (hp_st (n:Int) n0 f0 m0 g0 xb xn xd cs n pn n ts n ps (cells3 n (stR ts (sq0.qv xb xn xd)))):=by
 induction k with
 | zero=>
  intro j hj
  have:n=j+1:=by omega
  subst this
  refine .last (step_st ?_) (by intro h;cases h)
  rw [round_st,dF (show ¬ ((j+1:Nat):Int) < ((j+1:Nat):Int) by omega)]
  rfl
 | succ k ih=>
  intro j hj
  exact .more (st_step h ho j (by omega)) (ih (j+1) (by omega))
theorem s0_go (h:PlOk n ts n ps) (ho:okm xn xd=true) (hn:1 < n):LoopToB Tryz.prog 8 (lb 118 p_st) (sh_s0 ((0+1:Nat):Int) n0 f0 m0 g0 xb xn xd cs (cells3 1 (stR ts (sq0.qv xb xn xd))) pn n ts n ps) (hp_s0 ((0+1:Nat):Int) n0 f0 m0 g0 xb xn xd cs (cells3 1 (stR ts (sq0.qv xb xn xd))) pn n ts n ps) (.exit 0) (sh_st (n:Int) n0 f0 m0 g0 xb xn xd cs n pn n ts n ps (cells3 n (stR ts (sq0.qv xb xn xd)))) (hp_st (n:Int) n0 f0 m0 g0 xb xn xd cs n pn n ts n ps (cells3 n (stR ts (sq0.qv xb xn xd)))):=by
 obtain ⟨j,hj0⟩:∃ j,j=0:= ⟨0,rfl⟩
 have hj:j+1 < n:=by omega
 have hlim:=h.ts.lim
 obtain ⟨a1,a2⟩:=okX_out (h.ts.ok j (by omega))
 obtain ⟨b1,b2⟩:=okX_out (h.ts.ok (j+1) hj)
 obtain ⟨⟨c1,c2⟩,c3,c4⟩:=okQ_out (h.pts j (by omega))
 obtain ⟨⟨d1,d2⟩,d3,d4⟩:=okQ_out (h.pts (j+1) hj)
 obtain ⟨_,_,_,s4,_,_⟩:=sd_sz h hj
 have sx:=okm_sz (b:=xb) ho
 have s5:=szq_mul (qt ts (j+1) - qt ts j) (sq0.qv xb xn xd)
 have s6:=stR_sz (xb:=xb) h ho j (by omega)
 have t2:stR ts (sq0.qv xb xn xd) (j+1)=stR ts (sq0.qv xb xn xd) j+(qt ts (j+1) - qt ts j)*sq0.qv xb xn xd:=rfl
 have e1:((j+1:Nat):Int) - 1=(j:Int):=by omega
 have hr:=round_s0 hg0 sq0 ((j+1:Nat):Int) n0 f0 m0 g0 xb xn xd cs (cells3 (j+1) (stR ts (sq0.qv xb xn xd))) pn n ts n ps
 have b5:=cells3_b (j+1) (stR ts (sq0.qv xb xn xd)) (show j < j+1 by omega)
 have b6:=cells3_n (j+1) (stR ts (sq0.qv xb xn xd)) (show j < j+1 by omega)
 have b7:=cells3_d (j+1) (stR ts (sq0.qv xb xn xd)) (show j < j+1 by omega)
 simp only [e1,Int.toNat_natCast,qt_eq,qv_rat,b5,b6,b7,asB_bool,asS_str,isRat_mk] at hr
 rw [dT (show ((j+1:Nat):Int) < (n:Int) by omega),dT (show (0:Int)≤((j+1:Nat):Int) by omega),i64T (z:=(j:Int)) (by omega),dT (show (0:Int)≤(j:Int) by omega),dT (show (j:Int) < (n:Int) by omega),a1,okm_q a2,b1,okm_q b2,c1,c2,c3,c4,d1,d2,d3,d4,
  ok_rat (q:=qt ts (j+1) - qt ts j) (by omega),okm_q ho,ok_rat (q:=(qt ts (j+1) - qt ts j)*sq0.qv xb xn xd) (by omega),ok_rat (q:=stR ts (sq0.qv xb xn xd) j) (by omega),i64T (z:=((j+1:Nat):Int)+1) (by omega),dT (show (j:Int) < 1 by omega),← t2] at hr
 subst hj0
 rw [show List.take 3 ([(cells3 (0+1) (stR ts (sq0.qv xb xn xd))).getD 0 undef,(cells3 (0+1) (stR ts (sq0.qv xb xn xd))).getD 1 undef,(cells3 (0+1) (stR ts (sq0.qv xb xn xd))).getD 2 undef]:List Value) ++ ([(.bool (sq0.qn (stR ts (sq0.qv xb xn xd) (0+1)))),(.string (sq0.qs (stR ts (sq0.qv xb xn xd) (0+1)))),(.string (sq0.qd (stR ts (sq0.qv xb xn xd) (0+1))))]:List Value)=cells3 (1+1) (stR ts (sq0.qv xb xn xd)) from rfl] at hr
 exact .more (step_s0 hr) (st_go h ho (n - 2) 1 (by omega))
end
def pre_s0 (i:Int) (n0:Nat) (f0:Nat→Nat→AV) (m0:Nat) (g0:Nat→Nat→AV) (xb:Bool) (xn xd:BA) (cs t0:List Value) (pn n:Nat) (ts:List Value) (m:Nat) (ps:List Value):Prop:=i=1∧n=m∧1 < n∧t0=cells3 1 (stR ts (sq0.qv xb xn xd))∧PlOk n ts m ps∧okm xn xd=true
def post_s0 (i:Int) (n0:Nat) (f0:Nat→Nat→AV) (m0:Nat) (g0:Nat→Nat→AV) (xb:Bool) (xn xd:BA) (cs t0:List Value) (pn n:Nat) (ts:List Value) (m:Nat) (ps:List Value) (ρ:Int×Nat×List Value):Prop:=ρ.2=(n,cells3 n (stR ts (sq0.qv xb xn xd)))
theorem loop_s0 (i:Int) (n0:Nat) (f0:Nat→Nat→AV) (m0:Nat) (g0:Nat→Nat→AV) (xb:Bool) (xn xd:BA) (cs t0:List Value) (pn n:Nat) (ts:List Value) (m:Nat) (ps:List Value) (h:pre_s0 i n0 f0 m0 g0 xb xn xd cs t0 pn n ts m ps):∃ ρ:Int×Nat×List Value,LoopToB Tryz.prog 8 (lb 118 p_s0) (sh_s0 i n0 f0 m0 g0 xb xn xd cs t0 pn n ts m ps) (hp_s0 i n0 f0 m0 g0 xb xn xd cs t0 pn n ts m ps) (.exit 0) (sh_st ρ.1 n0 f0 m0 g0 xb xn xd cs ρ.2.1 pn n ts m ps ρ.2.2) (hp_st ρ.1 n0 f0 m0 g0 xb xn xd cs ρ.2.1 pn n ts m ps ρ.2.2)∧post_s0 i n0 f0 m0 g0 xb xn xd cs t0 pn n ts m ps ρ:=by
 obtain ⟨rfl,rfl,hn,rfl,hP,ho⟩:=h
 exact ⟨((n:Int),n,cells3 n (stR ts (sq0.qv xb xn xd))),s0_go hP ho hn,rfl⟩
def told_s0 (κ:Int→Nat→(Nat→Nat→AV)→Nat→(Nat→Nat→AV)→Bool→ByteArray→ByteArray→List Value→List Value→Nat→Nat→List Value→Nat→List Value→Bool) (φ:Int→Nat→(Nat→Nat→AV)→Nat→(Nat→Nat→AV)→Bool→ByteArray→ByteArray→List Value→List Value→Nat→Nat→List Value→Nat→List Value→Int×Nat×List Value) (T:List AV) (H:Hp):Option (Bool×Ex×List AV×Hp):=
 match lget T 0,lget T 1,lget T 3,H with
 | .yld 7, .ptr 6 0, .val (.int .i64 i), [.row (.cells [.lst false 24 n0 f0,.lst false 38 m0 g0]) 30 .live, .row (.cells [.val (.bool xb), .val (.string xn), .val (.string xd)]) 24 .live, .row (.cells [.val (.slice none 0 0),.val (.slice none 0 0)]) 30 .live, .row (.cells []) 38 .live, .row (.vals cs) 38 .live, .row (.cells [.lst true 24 1 f_t0, .sl false 38 4 0 pn]) 30 .live, .row (.cells [.lst false 24 n f_ts, .lst false 38 m f_ps]) 30 .live, .loop rr]=>bif T.length==40 then some (okV 3 n f_ts&&okV 6 m f_ps&&okV 3 1 f_t0&&recOkT rr&&κ i n0 f0 m0 g0 xb xn xd cs (rowV 3 1 f_t0) pn n (rowV 3 n f_ts) m (rowV 6 m f_ps), .exit 0,sh_st ((φ i n0 f0 m0 g0 xb xn xd cs (rowV 3 1 f_t0) pn n (rowV 3 n f_ts) m (rowV 6 m f_ps)).1) n0 f0 m0 g0 xb xn xd cs ((φ i n0 f0 m0 g0 xb xn xd cs (rowV 3 1 f_t0) pn n (rowV 3 n f_ts) m (rowV 6 m f_ps)).2.1) pn n (rowV 3 n f_ts) m (rowV 6 m f_ps) ((φ i n0 f0 m0 g0 xb xn xd cs (rowV 3 1 f_t0) pn n (rowV 3 n f_ts) m (rowV 6 m f_ps)).2.2),hp_st ((φ i n0 f0 m0 g0 xb xn xd cs (rowV 3 1 f_t0) pn n (rowV 3 n f_ts) m (rowV 6 m f_ps)).1) n0 f0 m0 g0 xb xn xd cs ((φ i n0 f0 m0 g0 xb xn xd cs (rowV 3 1 f_t0) pn n (rowV 3 n f_ts) m (rowV 6 m f_ps)).2.1) pn n (rowV 3 n f_ts) m (rowV 6 m f_ps) ((φ i n0 f0 m0 g0 xb xn xd cs (rowV 3 1 f_t0) pn n (rowV 3 n f_ts) m (rowV 6 m f_ps)).2.2)) else none
 | _,_,_,_=>none
abbrev KT_s0:Type:=Int→Nat→(Nat→Nat→AV)→Nat→(Nat→Nat→AV)→Bool→ByteArray→ByteArray→List Value→List Value→Nat→Nat→List Value→Nat→List Value→Bool
abbrev FT_s0:Type:=Int→Nat→(Nat→Nat→AV)→Nat→(Nat→Nat→AV)→Bool→ByteArray→ByteArray→List Value→List Value→Nat→Nat→List Value→Nat→List Value→Int×Nat×List Value
def LL_s0 (κ:KT_s0) (φ:FT_s0) (L:LTab):LTab:=addLn 8 118 p_s0 [0,1,3,1003,1006] (told_s0 κ φ) L
def phi_s0 (i:Int) (n0:Nat) (f0:Nat→Nat→AV) (m0:Nat) (g0:Nat→Nat→AV) (xb:Bool) (xn:ByteArray) (xd:ByteArray) (cs:List Value) (t0:List Value) (pn:Nat) (n:Nat) (ts:List Value) (m:Nat) (ps:List Value):Int×Nat×List Value:=Classical.epsilon fun ρ=>LoopToB Tryz.prog 8 (lb 118 p_s0) (sh_s0 i n0 f0 m0 g0 xb xn xd cs t0 pn n ts m ps) (hp_s0 i n0 f0 m0 g0 xb xn xd cs t0 pn n ts m ps) (.exit 0) (sh_st (ρ.1) n0 f0 m0 g0 xb xn xd cs (ρ.2.1) pn n ts m ps (ρ.2.2)) (hp_st (ρ.1) n0 f0 m0 g0 xb xn xd cs (ρ.2.1) pn n ts m ps (ρ.2.2))∧post_s0 i n0 f0 m0 g0 xb xn xd cs t0 pn n ts m ps ρ
theorem phi_s0_spec (i:Int) (n0:Nat) (f0:Nat→Nat→AV) (m0:Nat) (g0:Nat→Nat→AV) (xb:Bool) (xn:ByteArray) (xd:ByteArray) (cs:List Value) (t0:List Value) (pn:Nat) (n:Nat) (ts:List Value) (m:Nat) (ps:List Value) (h:pre_s0 i n0 f0 m0 g0 xb xn xd cs t0 pn n ts m ps):LoopToB Tryz.prog 8 (lb 118 p_s0) (sh_s0 i n0 f0 m0 g0 xb xn xd cs t0 pn n ts m ps) (hp_s0 i n0 f0 m0 g0 xb xn xd cs t0 pn n ts m ps) (.exit 0) (sh_st ((phi_s0 i n0 f0 m0 g0 xb xn xd cs t0 pn n ts m ps).1) n0 f0 m0 g0 xb xn xd cs ((phi_s0 i n0 f0 m0 g0 xb xn xd cs t0 pn n ts m ps).2.1) pn n ts m ps ((phi_s0 i n0 f0 m0 g0 xb xn xd cs t0 pn n ts m ps).2.2)) (hp_st ((phi_s0 i n0 f0 m0 g0 xb xn xd cs t0 pn n ts m ps).1) n0 f0 m0 g0 xb xn xd cs ((phi_s0 i n0 f0 m0 g0 xb xn xd cs t0 pn n ts m ps).2.1) pn n ts m ps ((phi_s0 i n0 f0 m0 g0 xb xn xd cs t0 pn n ts m ps).2.2))∧post_s0 i n0 f0 m0 g0 xb xn xd cs t0 pn n ts m ps (phi_s0 i n0 f0 m0 g0 xb xn xd cs t0 pn n ts m ps):=Classical.epsilon_spec (loop_s0 i n0 f0 m0 g0 xb xn xd cs t0 pn n ts m ps h)
def cond_s0 (i:Int) (n0:Nat) (f0:Nat→Nat→AV) (m0:Nat) (g0:Nat→Nat→AV) (xb:Bool) (xn:ByteArray) (xd:ByteArray) (cs:List Value) (t0:List Value) (pn:Nat) (n:Nat) (ts:List Value) (m:Nat) (ps:List Value):Bool:= @decide (pre_s0 i n0 f0 m0 g0 xb xn xd cs t0 pn n ts m ps) (Classical.propDecidable _)
theorem cond_s0_eq (i:Int) (n0:Nat) (f0:Nat→Nat→AV) (m0:Nat) (g0:Nat→Nat→AV) (xb:Bool) (xn:ByteArray) (xd:ByteArray) (cs:List Value) (t0:List Value) (pn:Nat) (n:Nat) (ts:List Value) (m:Nat) (ps:List Value) (h:pre_s0 i n0 f0 m0 g0 xb xn xd cs t0 pn n ts m ps):cond_s0 i n0 f0 m0 g0 xb xn xd cs t0 pn n ts m ps=true:= @decide_eq_true _ (Classical.propDecidable _) h
theorem told_s0_ok (T:List AV) (H:Hp) (e:Ex) (T1:List AV) (H1:Hp) (h:told_s0 cond_s0 phi_s0 T H=some (true,e,T1,H1)):V.Ends Tryz.prog false 8 0 (.loop (lb 118 p_s0)) T H e T1 H1:=by
 unfold told_s0 at h
 split at h
 ·rename_i i n0 f0 m0 g0 xb xn xd cs f_t0 pn n f_ts m f_ps rr h0 h1 h3
  rw [Bool.cond_eq_ite] at h
  split at h
  ·rename_i hlen
   rw [beq_iff_eq] at hlen
   simp only [Option.some.injEq,Prod.mk.injEq,Bool.and_eq_true,decide_eq_true_eq] at h
   obtain ⟨⟨⟨⟨⟨k1,k2⟩,k3⟩,k4⟩,k5⟩,rfl,rfl,rfl⟩:=h
   obtain rfl:rr=rcT:=recOkT_out k4
   have kc:= @of_decide_eq_true _ (Classical.propDecidable _) k5
   refine Ends.pre (Ends.preH (phi_s0_spec i n0 f0 m0 g0 xb xn xd cs (rowV 3 1 f_t0) pn n (rowV 3 n f_ts) m (rowV 6 m f_ps) kc).1.ends (sameH.cons (sameB.refl _) (sameH.cons (sameB.refl _) (sameH.cons (sameB.refl _) (sameH.cons (sameB.refl _) (sameH.cons (sameB.refl _) (sameH.cons ⟨⟨rfl,fun _ _ _ _ _ hh=>rel_ft (by kernel_rfl) k3 hh⟩,rfl,rfl⟩ (sameH.cons ⟨⟨rfl,fun _ _ _ _ _ hh=>rel_trj (by kernel_rfl) (by kernel_rfl) k1 k2 hh⟩,rfl,rfl⟩ (sameH.cons (sameB.refl _) sameH.nil))))))))) (fun α B w D ys hr=>slots_rel hlen (fun p hp y hy=> ?_) hr)
   simp only [List.mem_cons,List.not_mem_nil,or_false] at hp
   rcases hp with rfl | rfl | rfl
   ·rw [h0] at hy;exact hy
   ·rw [h1] at hy;exact hy
   ·rw [h3] at hy;exact hy
  ·cases h
 ·cases h
theorem LL_s0_ok {L:LTab} (h:LOk Tryz.prog L):LOk Tryz.prog (LL_s0 cond_s0 phi_s0 L):=h.add2n body_s0 told_s0_ok
end
end Go.Proofs.YtdnmkehncpfnnaaGreat.L
namespace Go.Proofs.YtdnmkehncpfnnaaGreat.L
open Go Go.V Go.RowKit Go.Proofs.YtdnmkehncpfnnaaGreat.Sp
open Go.Proofs (Tryz.prog)
noncomputable section
def CSr (C:Cg) (Z:Qg):FuncId→TF:=addC 28 (tChk C) (addC 42 (tQCheck Z) (addC 20 (tQSign Z) noC))
theorem stretch_call (C:Cg) (Z:Qg) (κ:KT_s0) (φ:FT_s0) (p:Nat) (ts:List Value) (ps:List Value) (xb:Bool) (xn xd:BA):letI q_2:=(rowV (6:Nat) (p+(2:Nat)) (vrow (6:Nat) ps));letI q_4:=((0:Nat)+(p+(2:Nat)));letI q_3:=(rowV (3:Nat) (p+(2:Nat)) (vrow (3:Nat) ts));letI q_1:=(φ (1:Int) (p+(2:Nat)) (vrow (3:Nat) ts) (p+(2:Nat)) (vrow (6:Nat) ps) xb xn xd q_2 (rowV (3:Nat) (1:Nat) fun j q=>vrow (3:Nat) ts (j+(0:Nat)) q) q_4 (p+(2:Nat)) q_3 (p+(2:Nat)) q_2);
  (callA Tryz.prog ⟨CSr C Z,fun _=>false,LL_s0 κ φ noL⟩ 10 10 26 [aTrj (p+2) ts (p+2) ps,w3 xb xn xd]=(bif okV (3:Nat) (p+(2:Nat)) (vrow (3:Nat) ts)&&okV (6:Nat) (p+(2:Nat)) (vrow (6:Nat) ps)&&C.ko (p+(2:Nat)) q_3 (p+(2:Nat)) q_2 then (bif !decide (C.ck (p+(2:Nat)) q_3 (p+(2:Nat)) q_2=(0:Int)) then some (.tup [(.agg [(.val (.slice .none 0 0)),(.val (.slice .none 0 0))]),(.val (.int .i64 1))]) else (bif Z.ok xn xd then (bif !decide (Z.ck xb xn xd=(0:Int)) then some (.tup [(.agg [(.val (.slice .none 0 0)),(.val (.slice .none 0 0))]),(.val (.int .i64 1))]) else (bif Z.ok xn xd then (bif decide (Z.sq (Z.qv xb xn xd)≤(0:Int)) then some (.tup [(.agg [(.val (.slice .none 0 0)),(.val (.slice .none 0 0))]),(.val (.int .i64 2))]) else (bif okV (6:Nat) (p+(2:Nat)) (vrow (6:Nat) ps) then (bif roomA Tryz.prog q_4 (38:Nat)&&(Cont.vals q_2).allOne then (bif okV (3:Nat) (p+(2:Nat)) (vrow (3:Nat) ts)&&okV (6:Nat) (p+(2:Nat)) (vrow (6:Nat) ps)&&true&&true&&κ (1:Int) (p+(2:Nat)) (vrow (3:Nat) ts) (p+(2:Nat)) (vrow (6:Nat) ps) xb xn xd q_2 (rowV (3:Nat) (1:Nat) fun j q=>vrow (3:Nat) ts (j+(0:Nat)) q) q_4 (p+(2:Nat)) q_3 (p+(2:Nat)) q_2 then (bif decide ((0:Nat)+q_1.snd.fst*(3:Nat)≤(Cont.vals q_1.snd.snd).len) then (bif decide ((0:Nat)+q_4*(6:Nat)≤(Cont.vals q_2).len) then some (.tup [(.agg [(.lst false 24 (q_1.snd.fst) (contF (Cont.vals q_1.snd.snd) [] (0:Nat) (3:Nat))),(.lst false 38 q_4 (contF (Cont.vals q_2) [] (0:Nat) (6:Nat)))]),(.val (.int .i64 0))]) else none) else none) else none) else none) else none)) else none)) else none)) else none)):=by kernel_rfl
theorem stretch_one (C:Cg) (Z:Qg) (ts ps:List Value) (xb:Bool) (xn xd:BA):callA Tryz.prog ⟨CSr C Z,fun _=>false,noL⟩ 10 10 26 [aTrj 1 ts 1 ps,w3 xb xn xd]=
  (bif C.ko (1:Nat) (rowV (3:Nat) (1:Nat) (vrow (3:Nat) ts)) (1:Nat) (rowV (6:Nat) (1:Nat) (vrow (6:Nat) ps)) then (bif !decide (C.ck (1:Nat) (rowV (3:Nat) (1:Nat) (vrow (3:Nat) ts)) (1:Nat) (rowV (6:Nat) (1:Nat) (vrow (6:Nat) ps))=(0:Int)) then some (.tup [(.agg [(.val (.slice .none 0 0)),(.val (.slice .none 0 0))]),(.val (.int .i64 1))]) else (bif Z.ok xn xd then (bif !decide (Z.ck xb xn xd=(0:Int)) then some (.tup [(.agg [(.val (.slice .none 0 0)),(.val (.slice .none 0 0))]),(.val (.int .i64 1))]) else (bif Z.ok xn xd then (bif decide (Z.sq (Z.qv xb xn xd)≤(0:Int)) then some (.tup [(.agg [(.val (.slice .none 0 0)),(.val (.slice .none 0 0))]),(.val (.int .i64 2))]) else (bif (Cont.vals (rowV (6:Nat) (1:Nat) (vrow (6:Nat) ps))).allOne then some (.tup [(.agg [(.lst true 24 1 (fun j q=>vrow (3:Nat) ts (j+(0:Nat)) q)),(.lst false 38 1 (contF (Cont.vals (rowV (6:Nat) (1:Nat) (vrow (6:Nat) ps))) [] (0:Nat) (6:Nat)))]),(.val (.int .i64 0))]) else none)) else none)) else none)) else none):=by kernel_rfl
structure Tt where
 sk:Nat→List Value→Nat→List Value→Bool→BA→BA→Bool
 sf:Nat→List Value→Nat→List Value→Bool→BA→BA→Bool
 st:Nat→List Value→Rat→List Value
def skN (n:Nat) (ts:List Value) (m:Nat) (ps:List Value) (xb:Bool) (xn xd:BA):Bool:=dkN n ts m ps xb xn xd&&decide (0 < sq0.qv xb xn xd)
def sfN (n:Nat) (ts:List Value) (m:Nat) (ps:List Value) (xb:Bool) (xn xd:BA):Bool:=dkN n ts m ps xb xn xd&& !decide (0 < sq0.qv xb xn xd)
def tt0:Tt where
 sk:=skN
 sf:=sfN
 st n ts x:=cells3 n (stR ts x)
def tStrO (T:Tt) (Z:Qg):TF:=fun args=>match args with
 | [.agg [.lst _ 24 n f, .lst _ 38 m g], .agg [.val (.bool xb), .val (.string xn), .val (.string xd)]]=>some (okV 3 n f&&okV 6 m g&&T.sk n (rowV 3 n f) m (rowV 6 m g) xb xn xd, .tup [aTrj n (T.st n (rowV 3 n f) (Z.qv xb xn xd)) m (rowV 6 m g), .val (.int .i64 0)])
 | _=>none
def tStrE (T:Tt):TF:=fun args=>match args with
 | [.agg [.lst _ 24 n f, .lst _ 38 m g], .agg [.val (.bool xb), .val (.string xn), .val (.string xd)]]=>some (okV 3 n f&&okV 6 m g&&T.sf n (rowV 3 n f) m (rowV 6 m g) xb xn xd, .tup [.agg [.val (.slice none 0 0), .val (.slice none 0 0)], .val (.int .i64 2)])
 | _=>none
theorem CSr_ok:Meets Tryz.prog (CSr cg0 sq0):=(((meets_none _).add eQSign).add eQCheck).add eChk
theorem sq_le' {q:Rat} :sq0.sq q≤0↔¬ 0 < q:=by
 show cqn q 0≤0↔_
 unfold cqn
 have this:q < 0→¬ 0 < q:=by grind
 split
 ·rename_i h
  exact ⟨fun _=>this h,fun _=>by omega⟩
 ·split
  ·rename_i h
   exact ⟨fun h2=>by omega,fun h2=>absurd h h2⟩
  ·rename_i h
   exact ⟨fun _=>h,fun _=>by omega⟩
theorem first_cells {n:Nat} {ts ps:List Value} (ho:koN n ts n ps=true) (hc:ckN n ts n ps=0) (x:Rat):(rowV 3 1 fun j q=>vrow 3 ts (j+0) q)=cells3 1 (stR ts x):=by
 obtain ⟨hx,_⟩:=koN_out ho
 obtain ⟨_,h1,_,h3⟩:=ckN_ok hc
 obtain ⟨a1,_⟩:=okX_out (hx 0 h1)
 obtain ⟨c1,c2,c3⟩:=can_rat a1 (ckE_go (h3 0 h1)).1
 show [ts.getD (0*3+0) undef,ts.getD (0*3+1) undef,ts.getD (0*3+2) undef]=rcells (qt ts 0)
 unfold rcells qt
 rw [← c1,← c2,← c3]
theorem stretch_ok (n:Nat) (ts:List Value) (m:Nat) (ps:List Value) (xb:Bool) (xn xd:BA) (l1:ts.length=n*3) (l2:ps.length=m*6) (hk:skN n ts m ps xb xn xd=true):
  ∃ (E:Env) (v:AV),Meets Tryz.prog E.C∧LoopsOk Tryz.prog E∧callA Tryz.prog E 10 10 26 [aTrj n ts m ps,w3 xb xn xd]=some v∧Imp v (.tup [aTrj n (cells3 n (stR ts (sq0.qv xb xn xd))) m ps, .val (.int .i64 0)]):=by
 unfold skN at hk
 rw [Bool.and_eq_true,decide_eq_true_eq] at hk
 obtain ⟨hk,hs⟩:=hk
 obtain ⟨k1,k2,k3,k4⟩:=dkN_out hk
 obtain ⟨rfl,h1,h2,_⟩:=ckN_ok k3
 obtain ⟨hx,hp⟩:=koN_out k1
 have hP:=plOk_of k1 k3
 have hs2:¬ sq0.sq (sq0.qv xb xn xd)≤0:=fun h=>sq_le'.1 h hs
 have hF:=first_cells k1 k3 (sq0.qv xb xn xd)
 by_cases hn:n=1
 ·subst hn
  refine ⟨⟨CSr cg0 sq0,fun _=>false,noL⟩, .tup [.agg [.lst true 24 1 (fun j q=>vrow 3 ts (j+0) q), .lst false 38 1 (vrow 6 ps)], .val (.int .i64 0)],CSr_ok,loops_none, ?_, ?_⟩
  ·rw [stretch_one,rowV_vrow l1,rowV_vrow l2,show cg0.ko 1 ts 1 ps=true from k1,dT (show cg0.ck 1 ts 1 ps=0 from k3),okm_q k2,dT k4,dF hs2,allOne_p l2 hp,contF_vrow']
   rfl
  ·refine Imp.tup (ImpL.cons (Imp.agg (ImpL.cons ?_ (ImpL.refl _))) (ImpL.refl _))
   rw [← hF]
   exact Imp.row (by kernel_rfl) (List.all_eq_true.2 fun i _=>rfl)
 ·obtain ⟨p,rfl⟩:∃ p,n=p+2:= ⟨n - 2,by omega⟩
  have hq:pre_s0 1 (p+2) (vrow 3 ts) (p+2) (vrow 6 ps) xb xn xd ps (cells3 1 (stR ts (sq0.qv xb xn xd))) (p+2) (p+2) ts (p+2) ps:= ⟨rfl,rfl,by omega,rfl,hP,k2⟩
  have hr:=(phi_s0_spec _ _ _ _ _ _ _ _ _ _ _ _ _ _ _ hq).2
  refine ⟨⟨CSr cg0 sq0,fun _=>false,LL_s0 cond_s0 phi_s0 noL⟩, .tup [aTrj (p+2) (cells3 (p+2) (stR ts (sq0.qv xb xn xd))) (p+2) ps, .val (.int .i64 0)],CSr_ok,(LL_s0_ok LOk.none).ok, ?_,Imp.refl _⟩
  rw [stretch_call,rowV_vrow l1,rowV_vrow l2,okV_vrow,okV_vrow,hF,Nat.zero_add,show cg0.ko (p+2) ts (p+2) ps=true from k1,dT (show cg0.ck (p+2) ts (p+2) ps=0 from k3),okm_q k2,dT k4,dF hs2,room_pt' (by omega),allOne_p l2 hp,
   cond_s0_eq _ _ _ _ _ _ _ _ _ _ _ _ _ _ _ hq,show (phi_s0 1 (p+2) (vrow 3 ts) (p+2) (vrow 6 ps) xb xn xd ps (cells3 1 (stR ts (sq0.qv xb xn xd))) (p+2) (p+2) ts (p+2) ps).2=(p+2,cells3 (p+2) (stR ts (sq0.qv xb xn xd))) from hr,
   contF_vrow',contF_vrow',dT (show 0+(p+2)*3≤(Cont.vals (cells3 (p+2) (stR ts (sq0.qv xb xn xd)))).len from by show _≤(cells3 _ _).length;rw [cells3_len];omega),dT (show 0+(p+2)*6≤(Cont.vals ps).len from by show _≤ps.length;omega)]
  rfl
theorem stretch_err (n:Nat) (ts:List Value) (m:Nat) (ps:List Value) (xb:Bool) (xn xd:BA) (l1:ts.length=n*3) (l2:ps.length=m*6) (hk:sfN n ts m ps xb xn xd=true):
  ∃ (E:Env),Meets Tryz.prog E.C∧LoopsOk Tryz.prog E∧callA Tryz.prog E 10 10 26 [aTrj n ts m ps,w3 xb xn xd]=some (.tup [.agg [.val (.slice none 0 0), .val (.slice none 0 0)], .val (.int .i64 2)]):=by
 unfold sfN at hk
 rw [Bool.and_eq_true,Bool.not_eq_true',decide_eq_false_iff_not] at hk
 obtain ⟨hk,hs⟩:=hk
 obtain ⟨k1,k2,k3,k4⟩:=dkN_out hk
 obtain ⟨rfl,h1,h2,_⟩:=ckN_ok k3
 have hs2:sq0.sq (sq0.qv xb xn xd)≤0:=sq_le'.2 hs
 by_cases hn:n=1
 ·subst hn
  refine ⟨⟨CSr cg0 sq0,fun _=>false,noL⟩,CSr_ok,loops_none, ?_⟩
  rw [stretch_one,rowV_vrow l1,rowV_vrow l2,show cg0.ko 1 ts 1 ps=true from k1,dT (show cg0.ck 1 ts 1 ps=0 from k3),okm_q k2,dT k4,dT hs2]
  rfl
 ·obtain ⟨p,rfl⟩:∃ p,n=p+2:= ⟨n - 2,by omega⟩
  refine ⟨⟨CSr cg0 sq0,fun _=>false,LL_s0 cond_s0 phi_s0 noL⟩,CSr_ok,(LL_s0_ok LOk.none).ok, ?_⟩
  rw [stretch_call,rowV_vrow l1,rowV_vrow l2,okV_vrow,okV_vrow,show cg0.ko (p+2) ts (p+2) ps=true from k1,dT (show cg0.ck (p+2) ts (p+2) ps=0 from k3),okm_q k2,dT k4,dT hs2]
  rfl
theorem eStrO:Entry Tryz.prog 26 (tStrO tt0 sq0):=by
 refine entry_at (by kernel_rfl) (fun args r h=> ?_)
 unfold tStrO at h
 split at h
 ·rename_i fl n f fl2 m g xb xn xd
  simp only [Option.some.injEq,Prod.mk.injEq,Bool.and_eq_true] at h
  obtain ⟨⟨⟨h1,h2⟩,h3⟩,rfl⟩:=h
  obtain ⟨E,v,q1,q2,q3,q4⟩:=stretch_ok n _ m _ xb xn xd (rowV_len 3 n f) (rowV_len 6 m g) h3
  exact ⟨E,10,10,_,_,q1,q2,q3,ImpL.cons (imp_trj h1 h2) (ImpL.refl _),q4⟩
 ·cases h
theorem eStrE:Entry Tryz.prog 26 (tStrE tt0):=by
 refine entry_at (by kernel_rfl) (fun args r h=> ?_)
 unfold tStrE at h
 split at h
 ·rename_i fl n f fl2 m g xb xn xd
  simp only [Option.some.injEq,Prod.mk.injEq,Bool.and_eq_true] at h
  obtain ⟨⟨⟨h1,h2⟩,h3⟩,rfl⟩:=h
  obtain ⟨E,q1,q2,q3⟩:=stretch_err n _ m _ xb xn xd (rowV_len 3 n f) (rowV_len 6 m g) h3
  exact ⟨E,10,10,_,_,q1,q2,q3,ImpL.cons (imp_trj h1 h2) (ImpL.refl _),Imp.refl _⟩
 ·cases h
end
end Go.Proofs.YtdnmkehncpfnnaaGreat.L
namespace Go.Proofs.YtdnmkehncpfnnaaGreat.L
open Go Go.V Go.RowKit Go.Proofs.YtdnmkehncpfnnaaGreat.Sp
open Go.Proofs (Tryz.prog)
noncomputable section
def tNo:TF:=fun _=>some (false, .any)
theorem eNo {g:FuncId} :Entry Tryz.prog g tNo:=fun args r h=>by cases h
def CFj (G:Gg) (C:Cg) (K:Hg) (Z:Qg) (E:FuncId→TF):FuncId→TF:=addC 29 (tGT G) (addC 34 (tChk C) (addC 10 (tGreat K) (addC 42 (tQCheck Z) (addC 11 tAwS E))))
def CTo (G:Gg) (C:Cg) (K:Hg) (A:Ag) (P:Pg) (T:Tt) (M:Sm) (Z:Qg):FuncId→TF:=CFj G C K Z (addC 16 (tAt A Z) (addC 25 (tSpeed C P Z) (addC 28 (tChk C) (addC 26 (tStrO T Z) (addC 20 (tQSign Z) (addC 22 (tQOf Z) (addC 27 (tQQuo Z) (addC 17 (gRR (tQSub Z)) (addC 18 (tQMul Z) (addC 19 (gRR (tQAdd Z)) (addC 14 (tSameO M) noC)))))))))))
def CTe (G:Gg) (C:Cg) (K:Hg) (T:Tt) (Z:Qg):FuncId→TF:=CFj G C K Z (addC 26 (tStrE T) (addC 20 (tQSign Z) (addC 22 tNo noC)))
theorem str_e (G:Gg) (C:Cg) (K:Hg) (T:Tt) (Z:Qg) (n:Nat) (ts:List Value) (m:Nat) (ps:List Value) (kb:Bool) (kn kd:BA) (xb:Bool) (xn xd:BA):letI q_1:=(rowV (3:Nat) n (vrow (3:Nat) ts));letI q_2:=(rowV (6:Nat) m (vrow (6:Nat) ps));
  (callA Tryz.prog ⟨CTe G C K T Z,Kall,noL⟩ 10 10 6 [aTrj n ts m ps,w3 kb kn kd,w3 xb xn xd]=(bif okV (3:Nat) n (vrow (3:Nat) ts)&&okV (6:Nat) m (vrow (6:Nat) ps)&&G.go n q_1 m q_2 then (bif G.gt n q_1 m q_2 then some (.val (.bool true)) else (bif okV (3:Nat) n (vrow (3:Nat) ts)&&okV (6:Nat) m (vrow (6:Nat) ps)&&C.ko n q_1 m q_2 then (bif !decide (C.ck n q_1 m q_2=(0:Int)) then some (.val (.bool true)) else (bif K.gr kn kd then some (.val (.bool true)) else (bif Z.ok kn kd then (bif !decide (Z.ck kb kn kd=(0:Int)) then some (.val (.bool true)) else (bif K.gr xn xd then some (.val (.bool true)) else (bif Z.ok xn xd then (bif !decide (Z.ck xb xn xd=(0:Int)) then some (.val (.bool true)) else (bif okV (3:Nat) n (vrow (3:Nat) ts)&&okV (6:Nat) m (vrow (6:Nat) ps)&&T.sf n q_1 m q_2 kb kn kd then (bif Z.ok kn kd then (bif decide (Z.sq (Z.qv kb kn kd)≤(0:Int)) then some (.val (.bool true)) else none) else none) else none)) else none))) else none))) else none)) else none)):=by kernel_rfl
theorem str_o (G:Gg) (C:Cg) (K:Hg) (A:Ag) (P:Pg) (T:Tt) (M:Sm) (Z:Qg) (n:Nat) (ts:List Value) (m:Nat) (ps:List Value) (kb:Bool) (kn kd:BA) (xb:Bool) (xn xd:BA):letI q_16:=(ts.getD (1:Nat) undef);letI q_17:=(ts.getD (2:Nat) undef);letI q_4:=(Z.qv xb xn xd - Z.qv (asB (ts.getD (0:Nat) undef)) (asS q_16) (asS q_17));letI q_11:=(Z.qv kb kn kd*Z.qv (Z.qn q_4) (Z.qs q_4) (Z.qd q_4));letI q_1:=(Z.qv (asB (ts.getD (0:Nat) undef)) (asS q_16) (asS q_17)+Z.qv (Z.qn q_11) (Z.qs q_11) (Z.qd q_11));letI q_5:=(rowV (3:Nat) n (vrow (3:Nat) ts));letI q_12:=(vrow (3:Nat) (T.st n q_5 (Z.qv kb kn kd)));letI q_2:=(rowV (3:Nat) n q_12);letI q_6:=(rowV (6:Nat) m (vrow (6:Nat) ps));letI q_3:=(rowV (6:Nat) m (vrow (6:Nat) q_6));letI q_15:=(Z.qv kb kn kd*Z.qv kb kn kd);letI q_7:=(Z.qv (Z.qn (P.sv n q_2 m q_3)) (Z.qs (P.sv n q_2 m q_3)) (Z.qd (P.sv n q_2 m q_3))*Z.qv (Z.qn q_15) (Z.qs q_15) (Z.qd q_15));letI q_19:=(Z.fr (1:Int) (1:Int));letI q_8:=(Z.qv (Z.qn q_19) (Z.qs q_19) (Z.qd q_19) / Z.qv kb kn kd);letI q_9:=(A.ax n q_2 m q_3 (Z.qn q_1) (Z.qs q_1) (Z.qd q_1));letI q_10:=(A.ay n q_2 m q_3 (Z.qn q_1) (Z.qs q_1) (Z.qd q_1));letI q_13:=(strEq (Z.qs (A.ay n q_5 m q_6 xb xn xd)) (Z.qs q_10)&&(strEq (Z.qd (A.ay n q_5 m q_6 xb xn xd)) (Z.qd q_10)&&true));letI q_14:=(A.ax n q_5 m q_6 xb xn xd);letI q_18:=(strEq (Z.qs (P.sv n q_5 m q_6)) (Z.qs q_7)&&(strEq (Z.qd (P.sv n q_5 m q_6)) (Z.qd q_7)&&true));
  (callA Tryz.prog ⟨CTo G C K A P T M Z,Kall,noL⟩ 10 10 6 [aTrj n ts m ps,w3 kb kn kd,w3 xb xn xd]=(bif okV (3:Nat) n (vrow (3:Nat) ts)&&okV (6:Nat) m (vrow (6:Nat) ps)&&G.go n q_5 m q_6 then (bif G.gt n q_5 m q_6 then some (.val (.bool true)) else (bif okV (3:Nat) n (vrow (3:Nat) ts)&&okV (6:Nat) m (vrow (6:Nat) ps)&&C.ko n q_5 m q_6 then (bif !decide (C.ck n q_5 m q_6=(0:Int)) then some (.val (.bool true)) else (bif K.gr kn kd then some (.val (.bool true)) else (bif Z.ok kn kd then (bif !decide (Z.ck kb kn kd=(0:Int)) then some (.val (.bool true)) else (bif K.gr xn xd then some (.val (.bool true)) else (bif Z.ok xn xd then (bif !decide (Z.ck xb xn xd=(0:Int)) then some (.val (.bool true)) else (bif okV (3:Nat) n (vrow (3:Nat) ts)&&okV (6:Nat) m (vrow (6:Nat) ps)&&T.sk n q_5 m q_6 kb kn kd then (bif Z.ok kn kd then (bif decide (Z.sq (Z.qv kb kn kd)≤(0:Int)) then some (.val (.bool false)) else (bif Z.ok (Z.qs q_19) (Z.qd q_19)&&Z.ok kn kd then (bif okV (3:Nat) n q_12&&okV (6:Nat) m (vrow (6:Nat) q_6)&&T.sk n q_2 m q_3 (Z.qn q_8) (Z.qs q_8) (Z.qd q_8) then (bif okV (3:Nat) n (vrow (3:Nat) ts)&&okV (6:Nat) m (vrow (6:Nat) ps)&&C.ko n q_5 m q_6 then (bif okV (3:Nat) n q_12&&okV (6:Nat) m (vrow (6:Nat) q_6)&&C.ko n q_2 m q_3 then (bif okV (3:Nat) n (vrow (3:Nat) ts)&&okV (6:Nat) m (vrow (6:Nat) ps)&&A.ak n q_5 m q_6 xn xd then (bif decide ((0:Int) < (↑n:Int)) then (bif decide ((0:Int) < (↑n:Int)) then (bif isRat (ts.getD (0:Nat) undef) q_16 q_17&&(Z.ok xn xd&&Z.ok (asS q_16) (asS q_17)) then (bif Z.ok kn kd&&Z.ok (Z.qs q_4) (Z.qd q_4) then (bif isRat (ts.getD (0:Nat) undef) q_16 q_17&&true&&(Z.ok (asS q_16) (asS q_17)&&Z.ok (Z.qs q_11) (Z.qd q_11)) then (bif okV (3:Nat) n q_12&&okV (6:Nat) m (vrow (6:Nat) q_6)&&A.ak n q_2 m q_3 (Z.qs q_1) (Z.qd q_1) then (bif decide (P.se n q_5 m q_6=(0:Int)) then (bif decide (P.se n q_2 m q_3=(0:Int)) then (bif decide (A.ae n q_5 m q_6 xb xn xd=(0:Int)) then (bif decide (A.ae n q_2 m q_3 (Z.qn q_1) (Z.qs q_1) (Z.qd q_1)=(0:Int)) then (bif okV (3:Nat) n (vrow (3:Nat) (T.st n q_2 (Z.qv (Z.qn q_8) (Z.qs q_8) (Z.qd q_8))))&&okV (6:Nat) m (vrow (6:Nat) q_3)&&(okV (3:Nat) n (vrow (3:Nat) ts)&&okV (6:Nat) m (vrow (6:Nat) ps)&&M.sm n (rowV (3:Nat) n (vrow (3:Nat) (T.st n q_2 (Z.qv (Z.qn q_8) (Z.qs q_8) (Z.qd q_8))))) m (rowV (6:Nat) m (vrow (6:Nat) q_3)) n q_5 m q_6) then (bif Z.ok kn kd&&Z.ok kn kd then (bif Z.ok (Z.qs (P.sv n q_2 m q_3)) (Z.qd (P.sv n q_2 m q_3))&&Z.ok (Z.qs q_15) (Z.qd q_15) then (bif bif false then !(Z.qn (P.sv n q_5 m q_6)==Z.qn q_7&&q_18) else Z.qn (P.sv n q_5 m q_6)==Z.qn q_7&&q_18 then (bif bif false then !(Z.qn q_14==Z.qn q_9&&(strEq (Z.qs q_14) (Z.qs q_9)&&(strEq (Z.qd q_14) (Z.qd q_9)&&true))&&(Z.qn (A.ay n q_5 m q_6 xb xn xd)==Z.qn q_10&&q_13&&true)) else Z.qn q_14==Z.qn q_9&&(strEq (Z.qs q_14) (Z.qs q_9)&&(strEq (Z.qd q_14) (Z.qd q_9)&&true))&&(Z.qn (A.ay n q_5 m q_6 xb xn xd)==Z.qn q_10&&q_13&&true) then (bif okV (3:Nat) n q_12&&okV (6:Nat) m (vrow (6:Nat) q_6)&&C.ko n q_2 m q_3 then (bif decide (C.ck n q_2 m q_3=(0:Int)) then some (.val (.bool true)) else some (.val (.bool false))) else none) else some (.val (.bool false))) else some (.val (.bool false))) else none) else none) else none) else some (.val (.bool false))) else some (.val (.bool false))) else some (.val (.bool false))) else some (.val (.bool false))) else none) else none) else none) else none) else none) else none) else none) else none) else none) else none) else none)) else none) else none)) else none))) else none))) else none)) else none)):=by kernel_rfl
end
end Go.Proofs.YtdnmkehncpfnnaaGreat.L
namespace Go.Proofs.YtdnmkehncpfnnaaGreat.L
open Go Go.V Go.RowKit Go.Proofs.YtdnmkehncpfnnaaGreat.Sp
open Go.Proofs (Tryz.prog)
noncomputable section
theorem pos_mul {k a:Rat} (hk:0 < k):0 < k*a↔0 < a:=by
 constructor
 ·intro h
  apply Classical.byContradiction
  intro hn
  have h1:0≤ -a:=by grind
  have h2:=mul_nn (Rat.le_of_lt hk) h1
  grind
 ·exact fun h=>Rat.mul_pos hk h
theorem quo_pos {k:Rat} (hk:0 < k):0 < ((1:Int):Rat) / k:=by
 rw [Rat.div_def]
 exact Rat.mul_pos (by decide) (Rat.inv_pos.2 hk)
theorem mul_quo {k u v:Rat} (hk:0 < k):(k*u) / (k*v)=u / v:=by
 by_cases hv:v=0
 ·subst hv
  rw [Rat.mul_zero,Rat.div_def,Rat.div_def,Rat.inv_zero,Rat.mul_zero,Rat.mul_zero]
 ·have:k≠0:=by grind
  grind
section
variable {n : Nat} {ts ps : List Value} {k : Rat}
theorem pl1_stretch (hk:0 < k) (c:Nat→Rat) (x:Rat):pl1 n (cells3 n (stR ts k)) c (qt ts 0+k*(x - qt ts 0))=pl1 n ts c x:=
 pl1_map (F:=fun a=>qt ts 0+k*(a - qt ts 0)) (fun a b=>by
  have h:=pos_mul (a:=b - a) hk
  have e:qt ts 0+k*(b - qt ts 0) - (qt ts 0+k*(a - qt ts 0))=k*(b - a):=by grind
  show qt ts 0+k*(a - qt ts 0) < qt ts 0+k*(b - qt ts 0)↔a < b
  constructor
  ·intro h2
   have:0 < k*(b - a):=by grind
   have:=h.1 this
   grind
  ·intro h2
   have:0 < k*(b - a):=h.2 (by grind)
   grind) (fun a b c=>by
  have e1:qt ts 0+k*(a - qt ts 0) - (qt ts 0+k*(b - qt ts 0))=k*(a - b):=by grind
  have e2:qt ts 0+k*(c - qt ts 0) - (qt ts 0+k*(b - qt ts 0))=k*(c - b):=by grind
  show (qt ts 0+k*(a - qt ts 0) - (qt ts 0+k*(b - qt ts 0))) / (qt ts 0+k*(c - qt ts 0) - (qt ts 0+k*(b - qt ts 0)))=_
  rw [e1,e2,mul_quo hk]) (fun j _=>by rw [stR_eq];show _=qt ts 0+k*(qt ts j - qt ts 0);grind) c x
theorem stR_up (h:TsOk n ts) (hk:0 < k) (j:Nat) (hj:j+1 < n):stR ts k j < stR ts k (j+1):=by
 have h1:=h.up j hj
 have h2:0 < (qt ts (j+1) - qt ts j)*k:=Rat.mul_pos (by grind) hk
 show _ < stR ts k j+(qt ts (j+1) - qt ts j)*k
 grind
theorem mx_stretch (h:TsOk n ts) (hk:0 < k):∀ j,j < n→mxN ts ps j=mxN (cells3 n (stR ts k)) ps j*(k*k)
 | 0,_=>by show (0:Rat)=0*(k*k);grind
 | j+1,hj=>by
  have ih:=mx_stretch h hk j (by omega)
  have hu:=h.up j hj
  have hd:0 < qt ts (j+1) - qt ts j:=by grind
  have hk2:=Rat.mul_pos hk hk
  have e:sdt (cells3 n (stR ts k)) j=(k*k)*sdt ts j:=by
   unfold sdt
   rw [qt_cells hj,qt_cells (j:=j) (by omega)]
   show (stR ts k j+(qt ts (j+1) - qt ts j)*k - stR ts k j)*(stR ts k j+(qt ts (j+1) - qt ts j)*k - stR ts k j)=_
   grind
  have ht:0 < sdt ts j:=Rat.mul_pos hd hd
  have e2:sdx ps j / sdt ts j=sdx ps j / sdt (cells3 n (stR ts k)) j*(k*k):=by
   rw [e]
   have h1:sdt ts j≠0:=by grind
   have h2:k≠0:=by grind
   grind
  have hc:mxN ts ps j < sdx ps j / sdt ts j↔mxN (cells3 n (stR ts k)) ps j < sdx ps j / sdt (cells3 n (stR ts k)) j:=by
   rw [ih,e2]
   generalize sdx ps j / sdt (cells3 n (stR ts k)) j=q
   generalize mxN (cells3 n (stR ts k)) ps j=p
   have h:=pos_mul (a:=q - p) hk2
   have e3:q*(k*k) - p*(k*k)=(k*k)*(q - p):=by grind
   constructor
   ·intro h2
    have:0 < (k*k)*(q - p):=by grind
    have:=h.1 this
    grind
   ·intro h2
    have:0 < (k*k)*(q - p):=h.2 (by grind)
    grind
  show (if mxN ts ps j < sdx ps j / sdt ts j then sdx ps j / sdt ts j else mxN ts ps j)=(if mxN (cells3 n (stR ts k)) ps j < sdx ps j / sdt (cells3 n (stR ts k)) j then sdx ps j / sdt (cells3 n (stR ts k)) j else mxN (cells3 n (stR ts k)) ps j)*(k*k)
  by_cases hq:mxN ts ps j < sdx ps j / sdt ts j
  ·rw [if_pos hq,if_pos (hc.1 hq)];exact e2
  ·rw [if_neg hq,if_neg (fun h=>hq (hc.2 h))];exact ih
theorem ts_cells {m:Nat} (l1:ts.length=n*3) (ho:koN n ts m ps=true) (hc:ckN n ts m ps=0):cells3 n (qt ts)=ts:=by
 obtain ⟨hx,_⟩:=koN_out ho
 obtain ⟨_,_,_,h3⟩:=ckN_ok hc
 apply List.ext_getElem?
 intro i
 by_cases hi:i < n*3
 ·have hj:i / 3 < n:=by omega
  obtain ⟨a1,_⟩:=okX_out (hx _ hj)
  obtain ⟨c1,c2,c3⟩:=can_rat a1 (ckE_go (h3 _ hj)).1
  have key:(cells3 n (qt ts)).getD i undef=ts.getD i undef:=by
   have e:i=i / 3*3+i % 3:=(Nat.div_add_mod' i 3).symm
   have h6:i % 3=0∨i % 3=1∨i % 3=2:=by omega
   rw [e]
   rcases h6 with h6 | h6 | h6 <;> rw [h6]
   ·rw [cells3_b n _ hj];exact c1.symm
   ·rw [cells3_n n _ hj];exact c2.symm
   ·rw [cells3_d n _ hj];exact c3.symm
  have hl:i < (cells3 n (qt ts)).length:=by rw [cells3_len];exact hi
  rw [List.getD_eq_getElem?_getD,List.getD_eq_getElem?_getD,List.getElem?_eq_getElem hl,List.getElem?_eq_getElem (show i < ts.length by omega)] at key
  rw [List.getElem?_eq_getElem hl,List.getElem?_eq_getElem (show i < ts.length by omega)]
  exact congrArg some key
 ·rw [List.getElem?_eq_none (by rw [cells3_len];omega),List.getElem?_eq_none (by omega)]
theorem st_back {m:Nat} (l1:ts.length=n*3) (ho:koN n ts m ps=true) (hc:ckN n ts m ps=0) (hk:0 < k):cells3 n (stR (cells3 n (stR ts k)) (1 / k))=ts:=by
 have hp:=(ckN_ok hc).2.1
 refine Eq.trans (cells3_congr fun j hj=> ?_) (ts_cells l1 ho hc)
 rw [stR_eq,qt_cells hj,qt_cells hp,stR_eq,stR_eq]
 have:k≠0:=by grind
 grind
end
end
end Go.Proofs.YtdnmkehncpfnnaaGreat.L
namespace Go.Proofs.YtdnmkehncpfnnaaGreat.L
open Go Go.V Go.RowKit Go.Proofs.YtdnmkehncpfnnaaGreat.Sp
open Go.Proofs (Tryz.prog)
noncomputable section
theorem CFj_ok {E:FuncId→TF} (h:Meets Tryz.prog E):Meets Tryz.prog (CFj gg0 cg0 hg0 sq0 E):=((((h.add eAwakeS).add eQCheck).add eGreat).add eRChk).add eGT
theorem CTe_ok:Meets Tryz.prog (CTe gg0 cg0 hg0 tt0 sq0):=CFj_ok ((((meets_none _).add eNo).add eQSign).add eStrE)
theorem CTo_ok:Meets Tryz.prog (CTo gg0 cg0 hg0 ag0 pg0 tt0 sm0 sq0):=CFj_ok (((((((((((meets_none _).add eSameO).add eQAdd.gRR).add eQMul).add eQSub.gRR).add eQQuo).add eQOf).add eQSign).add eStrO).add eChk).add eSpeed |>.add eAt)
theorem qt0_eq' (ts:List Value):sq0.qv (asB (ts.getD 0 undef)) (asS (ts.getD 1 undef)) (asS (ts.getD 2 undef))=qt ts 0:=rfl
theorem stretched_true (n:Nat) (ts:List Value) (m:Nat) (ps:List Value) (l1:ts.length=n*3) (o1:okTs n ts=true) (l2:ps.length=m*6) (o2:okpN m ps=true) (kb:Bool) (kn kd:BA) (xb:Bool) (xn xd:BA):
  ∃ E:Env,Meets Tryz.prog E.C∧LoopsOk Tryz.prog E∧callA Tryz.prog E 10 10 6 [aTrj n ts m ps,w3 kb kn kd,w3 xb xn xd]=some (.val (.bool true)):=by
 by_cases hk:0 < sq0.qv kb kn kd
 ·refine ⟨⟨CTo gg0 cg0 hg0 ag0 pg0 tt0 sm0 sq0,Kall,noL⟩,CTo_ok,loops_none, ?_⟩
  rw [str_o]
  simp only [rowV_vrow l1,rowV_vrow l2,okV_vrow,show gg0.go n ts m ps=true from by show (okTs n ts&&okpN m ps)=true;rw [o1,o2];rfl]
  by_cases hg:gtN n ts m ps=true
  ·rw [show gg0.gt n ts m ps=true from hg];rfl
  rw [show gg0.gt n ts m ps=false from Bool.eq_false_iff.2 hg]
  have hS:=small_of o1 o2 hg
  rw [show cg0.ko n ts m ps=true from hS.ko]
  by_cases hc:ckN n ts m ps=0
  case neg=>rw [dF (show ¬ cg0.ck n ts m ps=0 from hc)];rfl
  rw [dT (show cg0.ck n ts m ps=0 from hc)]
  by_cases hd1:hg0.gr kn kd=true
  ·rw [hd1];rfl
  have hd:=gr12 (Bool.eq_false_iff.2 hd1)
  rw [Bool.eq_false_iff.2 hd1,ok12_q hd]
  by_cases hd2:sq0.ck kb kn kd=0
  case neg=>rw [dF hd2];rfl
  rw [dT hd2]
  by_cases hx1:hg0.gr xn xd=true
  ·rw [hx1];rfl
  have hx:=gr12 (Bool.eq_false_iff.2 hx1)
  rw [Bool.eq_false_iff.2 hx1,ok12_q hx]
  by_cases hx2:sq0.ck xb xn xd=0
  case neg=>rw [dF hx2];rfl
  rw [dT hx2]
  obtain ⟨rfl,hpos,hlim,_⟩:=ckN_ok hc
  have hpl:=plOk_of hS.ko hc
  have sk:szq (sq0.qv kb kn kd)≤12:=ok12_sz hd
  have sx:szq (sq0.qv xb xn xd)≤12:=ok12_sz hx
  have a1:=atD hS.ko hc (okm_12 hx) hx2
  have k1:tt0.sk n ts n ps kb kn kd=true:=by
   show (dkN n ts n ps kb kn kd&&decide (0 < sq0.qv kb kn kd))=true
   rw [show dkN n ts n ps kb kn kd=true from dkD hS.ko hc (okm_12 hd) hd2,decide_eq_true hk];rfl
  have p1:=spD hc
  obtain ⟨r0,r0'⟩:=okX_out (hpl.ts.ok 0 hpos)
  have r0:isRat (ts.getD 0 undef) (ts.getD 1 undef) (ts.getD 2 undef)=true:=r0
  have r0':sq0.ok (asS (ts.getD 1 undef)) (asS (ts.getD 2 undef))=true:=okm_q r0'
  have z0:=hS.sz 0 hpos
  generalize sq0.qv kb kn kd=k at*
  generalize hxq:sq0.qv xb xn xd=x at*
  have hu:=trj_cells (q:=stR ts k) hpl (fun j hj=>by
   have h1:=hS.sz j hj
   have h2:=szq_sub (qt ts j) (qt ts 0)
   have h3:=szq_mul (qt ts j - qt ts 0) k
   have h4:=szq_add (qt ts 0) ((qt ts j - qt ts 0)*k)
   rw [stR_eq];omega) (stR_up hpl.ts hk)
  have hu2:=plOk_of hu.1 hu.2
  have p2:=spD hu.2
  have e1:tt0.st n ts k=cells3 n (stR ts k):=rfl
  have lu:=cells3_len n (stR ts k)
  have s1:szq ((1:Int):Rat)≤2:=sz_g (by decide)
  have s2:=szq_div ((1:Int):Rat) k
  have hb:0 < ((1:Int):Rat) / k:=quo_pos hk
  have k2:tt0.sk n (cells3 n (stR ts k)) n ps (sq0.qn (((1:Int):Rat) / k)) (sq0.qs (((1:Int):Rat) / k)) (sq0.qd (((1:Int):Rat) / k))=true:=by
   show (dkN _ _ _ _ _ _ _&&decide (0 < sq0.qv (sq0.qn (((1:Int):Rat) / k)) (sq0.qs (((1:Int):Rat) / k)) (sq0.qd (((1:Int):Rat) / k))))=true
   rw [show dkN n (cells3 n (stR ts k)) n ps (sq0.qn (((1:Int):Rat) / k)) (sq0.qs (((1:Int):Rat) / k)) (sq0.qd (((1:Int):Rat) / k))=true from dkD hu.1 hu.2 (okm_rat (by omega)) (ck_rat _),qv_rat,decide_eq_true hb];rfl
  have e2:tt0.st n (cells3 n (stR ts k)) (((1:Int):Rat) / k)=ts:=st_back l1 hS.ko hc hk
  have s3:=szq_sub x (qt ts 0)
  have s4:=szq_mul k (x - qt ts 0)
  have s5:=szq_add (qt ts 0) (k*(x - qt ts 0))
  have s6:=szq_mul k k
  have s7:=mx_sz hu2 (n - 1) (by omega)
  have a2:=atD hu.1 hu.2 (okm_rat (q:=qt ts 0+k*(x - qt ts 0)) (by omega)) (ck_rat _)
  rw [qv_rat,pl1_stretch hk,pl1_stretch hk] at a2
  have hmx:mxN (cells3 n (stR ts k)) ps (n - 1)*(k*k)=mxN ts ps (n - 1):=(mx_stretch hpl.ts hk (n - 1) (by omega)).symm
  have hsm:sm0.sm n ts n ps n ts n ps=true:=smN_in o1 o2
  have hsq:¬ sq0.sq k≤0:=fun h=>sq_le'.1 h hk
  have a13:=a1.2.2.1
  have a14:=a1.2.2.2
  simp only [e1,frg,qt0_eq',qv_rat,rowV_vrow lu,rowV_vrow l1,rowV_vrow l2,e2,okV_vrow,k1,k2,a1.1,a2.1,show cg0.ko n ts n ps=true from hS.ko,show cg0.ko n (cells3 n (stR ts k)) n ps=true from hu.1,a13,a14,a2.2.2.1,a2.2.2.2,p1.2,p2.2,hmx,r0,r0',ok12_q hd,ok12_q hx,ok_rat (q:=((1:Int):Rat)) (by omega),ok_rat (q:=x - qt ts 0) (by omega),ok_rat (q:=k*(x - qt ts 0)) (by omega),ok_rat (q:=k*k) (by omega),ok_rat (q:=mxN (cells3 n (stR ts k)) ps (n - 1)) (by omega),hsm,pair_eqD,rat_eqD]
  rw [dF hsq,dT (show (0:Int) < (n:Int) by omega),dT p1.1,dT p2.1,dT a1.2.1,dT a2.2.1,dT (show cg0.ck n (cells3 n (stR ts k)) n ps=0 from hu.2)]
  rfl
 ·refine ⟨⟨CTe gg0 cg0 hg0 tt0 sq0,Kall,noL⟩,CTe_ok,loops_none, ?_⟩
  rw [str_e]
  simp only [rowV_vrow l1,rowV_vrow l2,okV_vrow,show gg0.go n ts m ps=true from by show (okTs n ts&&okpN m ps)=true;rw [o1,o2];rfl]
  by_cases hg:gtN n ts m ps=true
  ·rw [show gg0.gt n ts m ps=true from hg];rfl
  rw [show gg0.gt n ts m ps=false from Bool.eq_false_iff.2 hg]
  have hS:=small_of o1 o2 hg
  rw [show cg0.ko n ts m ps=true from hS.ko]
  by_cases hc:ckN n ts m ps=0
  case neg=>rw [dF (show ¬ cg0.ck n ts m ps=0 from hc)];rfl
  rw [dT (show cg0.ck n ts m ps=0 from hc)]
  by_cases hd1:hg0.gr kn kd=true
  ·rw [hd1];rfl
  have hd:=gr12 (Bool.eq_false_iff.2 hd1)
  rw [Bool.eq_false_iff.2 hd1,ok12_q hd]
  by_cases hd2:sq0.ck kb kn kd=0
  case neg=>rw [dF hd2];rfl
  rw [dT hd2]
  by_cases hx1:hg0.gr xn xd=true
  ·rw [hx1];rfl
  have hx:=gr12 (Bool.eq_false_iff.2 hx1)
  rw [Bool.eq_false_iff.2 hx1,ok12_q hx]
  by_cases hx2:sq0.ck xb xn xd=0
  case neg=>rw [dF hx2];rfl
  rw [dT hx2]
  obtain ⟨rfl,hpos,hlim,_⟩:=ckN_ok hc
  have k1:tt0.sf n ts n ps kb kn kd=true:=by
   show (dkN n ts n ps kb kn kd&& !decide (0 < sq0.qv kb kn kd))=true
   rw [show dkN n ts n ps kb kn kd=true from dkD hS.ko hc (okm_12 hd) hd2,decide_eq_false hk];rfl
  rw [k1,dT (sq_le'.2 hk)]
  rfl
theorem stretched_walk (n:Nat) (ts:List Value) (m:Nat) (ps:List Value) (l1:ts.length=n*3) (o1:okTs n ts=true) (l2:ps.length=m*6) (o2:okpN m ps=true) (kb:Bool) (kn kd:BA) (xb:Bool) (xn xd:BA) (W:World) (v:Value) (hv:(aTrj n ts m ps).Rel Tryz.prog NoA (fun _=>False) W NoD v):Calls Tryz.prog 6 #[v, .agg #[.bool kb, .string kn, .string kd], .agg #[.bool xb, .string xn, .string xd]] W fun e w'=>e= .returned (.bool true)∧Below W.heap.size W w':=by
 obtain ⟨E,h1,h2,h3⟩:=stretched_true n ts m ps l1 o1 l2 o2 kb kn kd xb xn xd
 exact law_walk h1 h2 (by kernel_rfl) h3 W ⟨_,_,rfl,hv,_,_,rfl,arg_rat _ _ kb kn kd,_,_,rfl,arg_rat _ _ xb xn xd,rfl⟩
end
end Go.Proofs.YtdnmkehncpfnnaaGreat.L
