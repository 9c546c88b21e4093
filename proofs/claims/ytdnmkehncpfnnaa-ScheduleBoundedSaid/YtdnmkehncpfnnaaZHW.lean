import Derived.Test.YtdnmkehncpfnnaaZHZ
import Derived.Deep.Slices
import Derived.Carry
import Derived.ChangeOld
import Derived.Lib.SmallJoins
set_option linter.unusedVariables false
set_option linter.unusedSimpArgs false
namespace Go.Proofs.Ytdnmkehncpfnnaa.L
open Go Go.V Go.RowKit Go.Proofs.Ytdnmkehncpfnnaa.Sp
open Go.Proofs (Try.prog)
noncomputable section
theorem ckN_ok {n:Nat} {ts:List Value} {m:Nat} {ps:List Value} (h:ckN n ts m ps=0):n=m∧0 < n∧n≤1000∧∀ j,j < n→ckE ts ps j=0:=by
 unfold ckN at h
 split at h
 ·cases h
 ·rename_i h1
  split at h
  ·cases h
  ·split at h
   ·cases h
   ·exact ⟨Classical.not_not.1 h1,by omega,by omega,ckL_ok h⟩
theorem plOk_of {n:Nat} {ts:List Value} {m:Nat} {ps:List Value} (ho:koN n ts m ps=true) (h:ckN n ts m ps=0):PlOk n ts m ps:=by
 obtain ⟨rfl,h1,h2,h3⟩:=ckN_ok h
 obtain ⟨hx,hp⟩:=koN_out ho
 refine ⟨rfl,h1, ⟨h2,hx,fun j hj=> ?_⟩,hp,fun j hj=>(ckE_go (h3 j hj)).2.1⟩
 have:=(ckE_go (h3 (j+1) hj)).2.2 (by omega)
 rw [cq_ge,Nat.add_sub_cancel] at this
 exact Classical.not_not.1 this
end
end Go.Proofs.Ytdnmkehncpfnnaa.L
namespace Go.Proofs.Ytdnmkehncpfnnaa.L
open Go Go.V Go.RowKit Go.Proofs.Ytdnmkehncpfnnaa.Sp
open Go.Proofs (Try.prog)
noncomputable section
section
variable {at8 : Int} {r : Bool} {n : Nat} {ts ps : List Value} {xb : Bool} {xn xd : BA}
structure PcOk (n:Nat) (ts ps:List Value):Prop where
 l1:ts.length=n*3
 l2:ps.length=n*6
 ko:koN n ts n ps=true
 ck:ckN n ts n ps=0
end
end
end Go.Proofs.Ytdnmkehncpfnnaa.L
namespace Go.Proofs.Ytdnmkehncpfnnaa.L
open Go Go.V Go.RowKit Go.Proofs.Ytdnmkehncpfnnaa.Sp
open Go.Proofs (Try.prog)
noncomputable section
theorem gr12 {n d:BA} (h:hg0.gr n d=false):hg0.ok n d=true:=by
 have h:(decide (12 < n.size) ||decide (12 < d.size))=false:=h
 rw [Bool.or_eq_false_iff,decide_eq_false_iff_not,decide_eq_false_iff_not] at h
 show (decide _&&decide _)=true
 rw [decide_eq_true (show n.size≤12 by omega),decide_eq_true (show d.size≤12 by omega)];rfl
theorem okm_rat {q:Rat} (h:szq q≤1000):okm (sq0.qs q) (sq0.qd q)=true:=by
 unfold szq at h
 have h1:=size_qs q
 have h2:=size_qd q
 unfold okm
 rw [decide_eq_true (show (sq0.qs q).size≤1000 by omega),decide_eq_true (show (sq0.qd q).size≤1000 by omega)];rfl
theorem ck_rat (q:Rat):sq0.ck (sq0.qn q) (sq0.qs q) (sq0.qd q)=0:=by
 show (bif (sq0.qn q==sq0.qn (sq0.qv (sq0.qn q) (sq0.qs q) (sq0.qd q)))&&strEq (sq0.qs q) (sq0.qs (sq0.qv (sq0.qn q) (sq0.qs q) (sq0.qd q)))&&strEq (sq0.qd q) (sq0.qd (sq0.qv (sq0.qn q) (sq0.qs q) (sq0.qd q))) then (0:Int) else 1)=0
 rw [qv_rat,beq_self_eq_true,strEq_self,strEq_self];rfl
section
variable {n : Nat} {ts : List Value}
end
end
end Go.Proofs.Ytdnmkehncpfnnaa.L
namespace Go.Proofs.Ytdnmkehncpfnnaa.L
open Go Go.V Go.RowKit Go.Proofs.Ytdnmkehncpfnnaa.Sp
open Go.Proofs (Try.prog)
noncomputable section
def tVSub (K:Hg) (Z:Qg):TF:=p3 fun b n d c m e b2 n2 d2 c2 m2 e2=>some (K.ok n d&&K.ok m e&&K.ok n2 d2&&K.ok m2 e2,Z.pair (Z.qv b n d - Z.qv b2 n2 d2) (Z.qv c m e - Z.qv c2 m2 e2))
def tVDot (V:Vg) (Z:Qg):TF:=p3 fun b n d c m e b2 n2 d2 c2 m2 e2=>some (V.okl n d&&V.okl m e&&V.okl n2 d2&&V.okl m2 e2,Z.rat (Z.qv b n d*Z.qv b2 n2 d2+Z.qv c m e*Z.qv c2 m2 e2))
theorem vsub_tree (Z:Qg) (b c b2 c2:Bool) (n d m e n2 d2 m2 e2:BA):callA Try.prog ⟨CQd Z,Kall,noL⟩ 10 10 44 [w6 b n d c m e,w6 b2 n2 d2 c2 m2 e2]=
  (bif Z.ok n d&&Z.ok n2 d2 then (bif Z.ok m e&&Z.ok m2 e2 then some (.agg [(.val (.bool (Z.qn (Z.qv b n d - Z.qv b2 n2 d2)))),(.val (.string (Z.qs (Z.qv b n d - Z.qv b2 n2 d2)))),(.val (.string (Z.qd (Z.qv b n d - Z.qv b2 n2 d2)))),(.val (.bool (Z.qn (Z.qv c m e - Z.qv c2 m2 e2)))),(.val (.string (Z.qs (Z.qv c m e - Z.qv c2 m2 e2)))),(.val (.string (Z.qd (Z.qv c m e - Z.qv c2 m2 e2))))]) else none) else none):=by kernel_rfl
theorem vdot_tree (Z:Qg) (b c b2 c2:Bool) (n d m e n2 d2 m2 e2:BA):callA Try.prog ⟨CQd Z,Kall,noL⟩ 10 10 38 [w6 b n d c m e,w6 b2 n2 d2 c2 m2 e2]=
  (bif Z.ok n d&&Z.ok n2 d2 then (bif Z.ok m e&&Z.ok m2 e2 then (bif Z.ok (Z.qs (Z.qv b n d*Z.qv b2 n2 d2)) (Z.qd (Z.qv b n d*Z.qv b2 n2 d2))&&Z.ok (Z.qs (Z.qv c m e*Z.qv c2 m2 e2)) (Z.qd (Z.qv c m e*Z.qv c2 m2 e2)) then some (.agg [(.val (.bool (Z.qn (Z.qv (Z.qn (Z.qv b n d*Z.qv b2 n2 d2)) (Z.qs (Z.qv b n d*Z.qv b2 n2 d2)) (Z.qd (Z.qv b n d*Z.qv b2 n2 d2))+Z.qv (Z.qn (Z.qv c m e*Z.qv c2 m2 e2)) (Z.qs (Z.qv c m e*Z.qv c2 m2 e2)) (Z.qd (Z.qv c m e*Z.qv c2 m2 e2)))))),(.val (.string (Z.qs (Z.qv (Z.qn (Z.qv b n d*Z.qv b2 n2 d2)) (Z.qs (Z.qv b n d*Z.qv b2 n2 d2)) (Z.qd (Z.qv b n d*Z.qv b2 n2 d2))+Z.qv (Z.qn (Z.qv c m e*Z.qv c2 m2 e2)) (Z.qs (Z.qv c m e*Z.qv c2 m2 e2)) (Z.qd (Z.qv c m e*Z.qv c2 m2 e2)))))),(.val (.string (Z.qd (Z.qv (Z.qn (Z.qv b n d*Z.qv b2 n2 d2)) (Z.qs (Z.qv b n d*Z.qv b2 n2 d2)) (Z.qd (Z.qv b n d*Z.qv b2 n2 d2))+Z.qv (Z.qn (Z.qv c m e*Z.qv c2 m2 e2)) (Z.qs (Z.qv c m e*Z.qv c2 m2 e2)) (Z.qd (Z.qv c m e*Z.qv c2 m2 e2))))))]) else none) else none) else none):=by kernel_rfl
theorem eVSub:Entry Try.prog 44 (tVSub hg0 sq0):=by
 refine entry_of (E:= ⟨CQd sq0,Kall,noL⟩) (u:=10) (d:=10) CQd_ok loops_none mixed (by kernel_rfl) (fun args r h=> ?_)
 unfold tVSub p3 at h
 split at h
 ·rename_i b n d c m e b2 n2 d2 c2 m2 e2
  simp only [Option.some.injEq,Prod.mk.injEq,Bool.and_eq_true] at h
  obtain ⟨⟨⟨⟨h1,h2⟩,h3⟩,h4⟩,rfl⟩:=h
  rw [vsub_tree,ok12_q h1,ok12_q h2,ok12_q h3,ok12_q h4];rfl
 ·cases h
theorem eVDot:Entry Try.prog 38 (tVDot vg0 sq0):=by
 refine entry_of (E:= ⟨CQd sq0,Kall,noL⟩) (u:=10) (d:=10) CQd_ok loops_none mixed (by kernel_rfl) (fun args r h=> ?_)
 unfold tVDot p3 at h
 split at h
 ·rename_i b n d c m e b2 n2 d2 c2 m2 e2
  simp only [Option.some.injEq,Prod.mk.injEq,Bool.and_eq_true] at h
  obtain ⟨⟨⟨⟨h1,h2⟩,h3⟩,h4⟩,rfl⟩:=h
  have s1:=okl_sz (b:=b) h1
  have s2:=okl_sz (b:=c) h2
  have s3:=okl_sz (b:=b2) h3
  have s4:=okl_sz (b:=c2) h4
  have hcall:=vdot_tree sq0 b c b2 c2 n d m e n2 d2 m2 e2
  have o1:=okl_q h1
  have o2:=okl_q h2
  have o3:=okl_q h3
  have o4:=okl_q h4
  generalize sq0.qv b n d=x at*
  generalize sq0.qv c m e=y at*
  generalize sq0.qv b2 n2 d2=u at*
  generalize sq0.qv c2 m2 e2=v at*
  have y1:=szq_mul x u
  have y2:=szq_mul y v
  simp only [qv_rat,o1,o2,o3,o4,ok_rat (q:=x*u) (by omega),ok_rat (q:=y*v) (by omega),Bool.and_self,cond_true] at hcall
  exact hcall
 ·cases h
theorem okQ_sz' {ps:List Value} {j:Nat} (h:okQ ps j=true):szq (px ps j)≤12∧szq (py ps j)≤12:=by
 obtain ⟨_,h3,h4⟩:=okQ_out h
 exact ⟨ok12_sz h3,ok12_sz h4⟩
def rcS:Rec:= ⟨slots 37 [(4, .ptr 2 0)],#[15,16],9, [false,true,false,true,true,true], .ready,none⟩
def ESp (K:Hg) (V:Vg) (Z:Qg):Env:= ⟨addC 14 (gRR (tQSub Z)) (addC 44 (gPP (tVSub K Z)) (addC 38 (tVDot V Z) (addC 8 (tQMul Z) (addC 37 (tQQuo Z) (addC 11 (tQCompare Z) noC))))),fun _=>false,noL⟩
def recT (k:Nat):AV→Nat→Bool
 | .any,i=> !(i==k)
 | .ptr a b,i=>i==k&&(a==2&&b==0)
 | _,_=>false
def recOkS (r:Rec):Bool:=(r.T.length==37&&(List.range 37).all fun i=>recT 4 (lget r.T i) i)&&(r.params== #[15,16]&&(r.g==9&&(r.path== [false,true,false,true,true,true]&&((match r.st with | .ready=>true | _=>false)&&r.pend.isNone))))
theorem recT_out {k i:Nat} {v:AV} (h:recT k v i=true):v=if i=k then .ptr 2 0 else .any:=by
 unfold recT at h
 split at h
 ·rw [Bool.not_eq_true',beq_eq_false_iff_ne] at h
  rw [if_neg h]
 ·rw [Bool.and_eq_true,Bool.and_eq_true,beq_iff_eq,beq_iff_eq,beq_iff_eq] at h
  obtain ⟨rfl,rfl,rfl⟩:=h
  rw [if_pos rfl]
 ·cases h
theorem recOkS_out {r:Rec} (h:recOkS r=true):r=rcS:=by
 obtain ⟨T,ps,g,p,st,pd⟩:=r
 unfold recOkS at h
 simp only [Bool.and_eq_true,beq_iff_eq] at h
 obtain ⟨⟨h1,h2⟩,rfl,rfl,rfl,h3,h4⟩:=h
 have e1:st= .ready:=by cases st <;> first | rfl | cases h3
 have e2:pd=none:=by cases pd <;> first | rfl | cases h4
 subst e1 e2
 unfold rcS
 congr 1
 apply List.ext_getElem?
 intro i
 by_cases hi:i < 37
 ·have h5:=recT_out (List.all_eq_true.1 h2 i (List.mem_range.2 hi))
  rw [lget_eq,List.getElem?_eq_getElem (show i < T.length by omega),Option.getD_some] at h5
  rw [List.getElem?_eq_getElem (show i < T.length by omega),h5]
  unfold slots
  rw [List.getElem?_map,List.getElem?_range hi,Option.map_some]
  show _=some (slotAt [(4,AV.ptr 2 0)] i)
  unfold slotAt slotAt
  by_cases h6:i=4
  ·subst h6;rfl
  ·rw [if_neg h6,show ((4:Nat)==i)=false from beq_eq_false_iff_ne.2 (Ne.symm h6)];rfl
 ·rw [List.getElem?_eq_none (by omega),List.getElem?_eq_none (by unfold slots;simp;omega)]
abbrev p_sp:List Bool:= [false,true]
def sh_sp (i:Int) (n0:Nat) (f0:Nat→Nat→AV) (m0:Nat) (g0:Nat→Nat→AV) (zb:Bool) (zn:ByteArray) (zd:ByteArray) (mb:Bool) (mn:ByteArray) (md:ByteArray) (n:Nat) (ts:List Value) (m:Nat) (ps:List Value):List AV:=slots 40 [(0, .yld 4),(1, .ptr 3 0),(3, .val (.int .i64 i))]
def hp_sp (i:Int) (n0:Nat) (f0:Nat→Nat→AV) (m0:Nat) (g0:Nat→Nat→AV) (zb:Bool) (zn:ByteArray) (zd:ByteArray) (mb:Bool) (mn:ByteArray) (md:ByteArray) (n:Nat) (ts:List Value) (m:Nat) (ps:List Value):Hp:= [.row (.cells [.lst false 24 n0 f0,.lst false 41 m0 g0]) 30 .live, .row (.cells [.val (.bool zb), .val (.string zn), .val (.string zd)]) 24 .live, .row (.cells [.val (.bool mb), .val (.string mn), .val (.string md)]) 24 .live, .row (.cells [.lst false 24 n (vrow 3 ts), .lst false 41 m (vrow 6 ps)]) 30 .live, .loop rcS]
theorem body_sp:subC Try.prog 62 p_sp=some (.loop (lb 62 p_sp)):=by kernel_rfl
theorem code_sp:subC Try.prog 62 (false :: p_sp)=some (lb 62 p_sp):=by kernel_rfl
theorem round_sp (K:Hg) (V:Vg) (Z:Qg) (i:Int) (n0:Nat) (f0:Nat→Nat→AV) (m0:Nat) (g0:Nat→Nat→AV) (zb:Bool) (zn:ByteArray) (zd:ByteArray) (mb:Bool) (mn:ByteArray) (md:ByteArray) (n:Nat) (ts:List Value) (m:Nat) (ps:List Value):letI q_19:=(ps.getD (i.toNat*(6:Nat)+(1:Nat)) undef);letI q_20:=(ps.getD (i.toNat*(6:Nat)+(2:Nat)) undef);letI q_13:=(ps.getD ((i - (1:Int)).toNat*(6:Nat)+(1:Nat)) undef);letI q_14:=(ps.getD ((i - (1:Int)).toNat*(6:Nat)+(2:Nat)) undef);letI q_5:=(Z.qv (asB (ps.getD (i.toNat*(6:Nat)+(0:Nat)) undef)) (asS q_19) (asS q_20) - Z.qv (asB (ps.getD ((i - (1:Int)).toNat*(6:Nat)+(0:Nat)) undef)) (asS q_13) (asS q_14));letI q_21:=(ps.getD (i.toNat*(6:Nat)+(4:Nat)) undef);letI q_22:=(ps.getD (i.toNat*(6:Nat)+(5:Nat)) undef);letI q_15:=(ps.getD ((i - (1:Int)).toNat*(6:Nat)+(4:Nat)) undef);letI q_16:=(ps.getD ((i - (1:Int)).toNat*(6:Nat)+(5:Nat)) undef);letI q_6:=(Z.qv (asB (ps.getD (i.toNat*(6:Nat)+(3:Nat)) undef)) (asS q_21) (asS q_22) - Z.qv (asB (ps.getD ((i - (1:Int)).toNat*(6:Nat)+(3:Nat)) undef)) (asS q_15) (asS q_16));letI q_2:=(Z.qv (Z.qn q_5) (Z.qs q_5) (Z.qd q_5)*Z.qv (Z.qn q_5) (Z.qs q_5) (Z.qd q_5)+Z.qv (Z.qn q_6) (Z.qs q_6) (Z.qd q_6)*Z.qv (Z.qn q_6) (Z.qs q_6) (Z.qd q_6));letI q_17:=(ts.getD (i.toNat*(3:Nat)+(1:Nat)) undef);letI q_18:=(ts.getD (i.toNat*(3:Nat)+(2:Nat)) undef);letI q_11:=(ts.getD ((i - (1:Int)).toNat*(3:Nat)+(1:Nat)) undef);letI q_12:=(ts.getD ((i - (1:Int)).toNat*(3:Nat)+(2:Nat)) undef);letI q_3:=(Z.qv (asB (ts.getD (i.toNat*(3:Nat)+(0:Nat)) undef)) (asS q_17) (asS q_18) - Z.qv (asB (ts.getD ((i - (1:Int)).toNat*(3:Nat)+(0:Nat)) undef)) (asS q_11) (asS q_12));letI q_8:=(Z.qv (Z.qn q_3) (Z.qs q_3) (Z.qd q_3)*Z.qv (Z.qn q_3) (Z.qs q_3) (Z.qd q_3));letI q_1:=(Z.qv (Z.qn q_2) (Z.qs q_2) (Z.qd q_2) / Z.qv (Z.qn q_8) (Z.qs q_8) (Z.qd q_8));letI q_9:=(Rec.mk rcS.T rcS.params (9:Nat) rcS.path LoopState.busy rcS.pend);letI q_4:=(Rec.mk q_9.T q_9.params (9:Nat) q_9.path LoopState.ready none);letI q_7:=(Rec.mk (maskA (recMask [(0:Nat),(1:Nat),(3:Nat),(1004:Nat)]) q_4.T) q_4.params (9:Nat) q_4.path q_4.st q_4.pend);letI q_10:=(Rec.mk (maskA (recMask [(0:Nat),(1:Nat),(3:Nat),(1004:Nat)]) rcS.T) rcS.params (9:Nat) rcS.path rcS.st rcS.pend);
  (roundF Try.prog (ESp K V Z) 5 62 [0,1,3,1004] (lb 62 p_sp) (false :: p_sp) (sh_sp i n0 f0 m0 g0 zb zn zd mb mn md n ts m ps) (hp_sp i n0 f0 m0 g0 zb zn zd mb mn md n ts m ps)=(bif decide (i < (↑n:Int)) then (bif decide ((0:Int)≤i)&&decide (i < (↑n:Int)) then (bif inR IntKind.i64 (i - (1:Int)) then (bif decide ((0:Int)≤i - (1:Int))&&decide (i - (1:Int) < (↑n:Int)) then (bif isRat (ts.getD (i.toNat*(3:Nat)+(0:Nat)) undef) q_17 q_18&&isRat (ts.getD ((i - (1:Int)).toNat*(3:Nat)+(0:Nat)) undef) q_11 q_12&&(Z.ok (asS q_17) (asS q_18)&&Z.ok (asS q_11) (asS q_12)) then (bif decide ((0:Int)≤i)&&decide (i < (↑m:Int)) then (bif inR IntKind.i64 (i - (1:Int)) then (bif decide ((0:Int)≤i - (1:Int))&&decide (i - (1:Int) < (↑m:Int)) then (bif isRat (ps.getD (i.toNat*(6:Nat)+(0:Nat)) undef) q_19 q_20&&isRat (ps.getD (i.toNat*(6:Nat)+(3:Nat)) undef) q_21 q_22&&(isRat (ps.getD ((i - (1:Int)).toNat*(6:Nat)+(0:Nat)) undef) q_13 q_14&&isRat (ps.getD ((i - (1:Int)).toNat*(6:Nat)+(3:Nat)) undef) q_15 q_16)&&(K.ok (asS q_19) (asS q_20)&&K.ok (asS q_21) (asS q_22)&&K.ok (asS q_13) (asS q_14)&&K.ok (asS q_15) (asS q_16)) then (bif V.okl (Z.qs q_5) (Z.qd q_5)&&V.okl (Z.qs q_6) (Z.qd q_6)&&V.okl (Z.qs q_5) (Z.qd q_5)&&V.okl (Z.qs q_6) (Z.qd q_6) then (bif Z.ok (Z.qs q_3) (Z.qd q_3)&&Z.ok (Z.qs q_3) (Z.qd q_3) then (bif Z.ok (Z.qs q_2) (Z.qd q_2)&&Z.ok (Z.qs q_8) (Z.qd q_8) then (bif Z.ok (Z.qs q_1) (Z.qd q_1)&&Z.ok mn md then (bif decide ((0:Int) < Z.cq (Z.qv (Z.qn q_1) (Z.qs q_1) (Z.qd q_1)) (Z.qv mb mn md)) then (bif inR IntKind.i64 (i+(1:Int)) then some (.normal,slots 40 [(0,(.yld 4)),(1,(.ptr 3 0)),(3,(.val (.int .i64 (i+(1:Int)))))], [(.row (.cells [(.lst false 24 n0 (f0)),(.lst false 41 m0 (g0))]) 30 .live),(.row (.cells [(.val (.bool zb)),(.val (.string zn)),(.val (.string zd))]) 24 .live),(.row (.cells [(.val (.bool (Z.qn q_1))),(.val (.string (Z.qs q_1))),(.val (.string (Z.qd q_1)))]) 24 .live),(.row (.cells [(.lst false 24 n (vrow (3:Nat) ts)),(.lst false 41 m (vrow (6:Nat) ps))]) 30 .live),(.loop (.mk [.any, .any, .any, .any,(.ptr 2 0), .any, .any, .any, .any, .any, .any, .any, .any, .any, .any, .any, .any, .any, .any, .any, .any, .any, .any, .any, .any, .any, .any, .any, .any, .any, .any, .any, .any, .any, .any, .any, .any] (q_7.params) 9 (q_7.path) .ready .none))]) else none) else (bif inR IntKind.i64 (i+(1:Int)) then some (.normal,slots 40 [(0,(.yld 4)),(1,(.ptr 3 0)),(3,(.val (.int .i64 (i+(1:Int)))))], [(.row (.cells [(.lst false 24 n0 (f0)),(.lst false 41 m0 (g0))]) 30 .live),(.row (.cells [(.val (.bool zb)),(.val (.string zn)),(.val (.string zd))]) 24 .live),(.row (.cells [(.val (.bool mb)),(.val (.string mn)),(.val (.string md))]) 24 .live),(.row (.cells [(.lst false 24 n (vrow (3:Nat) ts)),(.lst false 41 m (vrow (6:Nat) ps))]) 30 .live),(.loop (.mk [.any, .any, .any, .any,(.ptr 2 0), .any, .any, .any, .any, .any, .any, .any, .any, .any, .any, .any, .any, .any, .any, .any, .any, .any, .any, .any, .any, .any, .any, .any, .any, .any, .any, .any, .any, .any, .any, .any, .any] (q_7.params) 9 (q_7.path) .ready .none))]) else none)) else none) else none) else none) else none) else none) else none) else none) else none) else none) else none) else none) else none) else some ((.exit 0),slots 40 [(0,(.yld 4)),(1,(.ptr 3 0)),(3,(.val (.int .i64 i)))], [(.row (.cells [(.lst false 24 n0 (f0)),(.lst false 41 m0 (g0))]) 30 .live),(.row (.cells [(.val (.bool zb)),(.val (.string zn)),(.val (.string zd))]) 24 .live),(.row (.cells [(.val (.bool mb)),(.val (.string mn)),(.val (.string md))]) 24 .live),(.row (.cells [(.lst false 24 n (vrow (3:Nat) ts)),(.lst false 41 m (vrow (6:Nat) ps))]) 30 .live),(.loop (.mk [.any, .any, .any, .any,(.ptr 2 0), .any, .any, .any, .any, .any, .any, .any, .any, .any, .any, .any, .any, .any, .any, .any, .any, .any, .any, .any, .any, .any, .any, .any, .any, .any, .any, .any, .any, .any, .any, .any, .any] (q_10.params) 9 (q_10.path) .ready .none))]))):=by kernel_rfl
theorem step_sp {i:Int} {n0:Nat} {f0:Nat→Nat→AV} {m0:Nat} {g0:Nat→Nat→AV} {zb:Bool} {zn:ByteArray} {zd:ByteArray} {mb:Bool} {mn:ByteArray} {md:ByteArray} {n:Nat} {ts:List Value} {m:Nat} {ps:List Value} {e:Ex} {T:List AV} {H:Hp} (h:roundF Try.prog (ESp hg0 vg0 sq0) 5 62 [0,1,3,1004] (lb 62 p_sp) (false :: p_sp) (sh_sp i n0 f0 m0 g0 zb zn zd mb mn md n ts m ps) (hp_sp i n0 f0 m0 g0 zb zn zd mb mn md n ts m ps)=some (e,T,H)):V.Ends Try.prog false 5 0 (lb 62 p_sp) (sh_sp i n0 f0 m0 g0 zb zn zd mb mn md n ts m ps) (hp_sp i n0 f0 m0 g0 zb zn zd mb mn md n ts m ps) e T H:=
 round_endsF (((((((meets_none _).add eQCompare).add eQQuo).add eQMul).add eVDot).add eVSub.gPP).add eQSub.gRR) loops_none mixed code_sp h
def sdx (ps:List Value) (j:Nat):Rat:=(px ps (j+1) - px ps j)*(px ps (j+1) - px ps j)+(py ps (j+1) - py ps j)*(py ps (j+1) - py ps j)
def sdt (ts:List Value) (j:Nat):Rat:=(qt ts (j+1) - qt ts j)*(qt ts (j+1) - qt ts j)
def mxN (ts ps:List Value):Nat→Rat
 | 0=>0
 | k+1=>if mxN ts ps k < sdx ps k / sdt ts k then sdx ps k / sdt ts k else mxN ts ps k
theorem sd_sz {n:Nat} {ts ps:List Value} (h:PlOk n ts n ps) {j:Nat} (hj:j+1 < n):szq (px ps (j+1) - px ps j)≤25∧szq (py ps (j+1) - py ps j)≤25∧szq (sdx ps j)≤101∧szq (qt ts (j+1) - qt ts j)≤2001∧szq (sdt ts j)≤4002∧szq (sdx ps j / sdt ts j)≤4104:=by
 obtain ⟨a1,a2⟩:=okQ_sz' (h.pts j (by omega))
 obtain ⟨a3,a4⟩:=okQ_sz' (h.pts (j+1) hj)
 have b1:=okX_sz (h.ts.ok j (by omega))
 have b2:=okX_sz (h.ts.ok (j+1) hj)
 have c1:=szq_sub (px ps (j+1)) (px ps j)
 have c2:=szq_sub (py ps (j+1)) (py ps j)
 have c3:=szq_mul (px ps (j+1) - px ps j) (px ps (j+1) - px ps j)
 have c4:=szq_mul (py ps (j+1) - py ps j) (py ps (j+1) - py ps j)
 have c5:=szq_add ((px ps (j+1) - px ps j)*(px ps (j+1) - px ps j)) ((py ps (j+1) - py ps j)*(py ps (j+1) - py ps j))
 have c6:=szq_sub (qt ts (j+1)) (qt ts j)
 have c7:=szq_mul (qt ts (j+1) - qt ts j) (qt ts (j+1) - qt ts j)
 have c8:=szq_div (sdx ps j) (sdt ts j)
 unfold sdx sdt at*
 omega
theorem mx_sz {n:Nat} {ts ps:List Value} (h:PlOk n ts n ps):∀ j,j < n→szq (mxN ts ps j)≤4104
 | 0,_=>Nat.le_trans szq_zero (by decide)
 | j+1,hj=>by
  unfold mxN
  split
  ·exact (sd_sz h hj).2.2.2.2.2
  ·exact mx_sz h j (by omega)
theorem cq_gt' {a b:Rat} :0 < sq0.cq a b↔b < a:=by
 show 0 < cqn a b↔_
 unfold cqn
 split
 ·rename_i h;exact ⟨fun h2=>by omega,fun h2=>by grind⟩
 ·split
  ·rename_i h;exact ⟨fun _=>h,fun _=>by omega⟩
  ·rename_i h;exact ⟨fun h2=>by omega,fun h2=>absurd h2 h⟩
section
variable {n0 : Nat} {f0 : Nat → Nat → AV} {m0 : Nat} {g0 : Nat → Nat → AV} {zb : Bool} {zn zd : BA} {n : Nat} {ts ps : List Value}
theorem sp_step (h:PlOk n ts n ps) (j:Nat) (hj:j+1 < n):V.Ends Try.prog false 5 0 (lb 62 p_sp) (sh_sp ((j+1:Nat):Int) n0 f0 m0 g0 zb zn zd (sq0.qn (mxN ts ps j)) (sq0.qs (mxN ts ps j)) (sq0.qd (mxN ts ps j)) n ts n ps) (hp_sp ((j+1:Nat):Int) n0 f0 m0 g0 zb zn zd (sq0.qn (mxN ts ps j)) (sq0.qs (mxN ts ps j)) (sq0.qd (mxN ts ps j)) n ts n ps) .normal (sh_sp ((j+1+1:Nat):Int) n0 f0 m0 g0 zb zn zd (sq0.qn (mxN ts ps (j+1))) (sq0.qs (mxN ts ps (j+1))) (sq0.qd (mxN ts ps (j+1))) n ts n ps) (hp_sp ((j+1+1:Nat):Int) n0 f0 m0 g0 zb zn zd (sq0.qn (mxN ts ps (j+1))) (sq0.qs (mxN ts ps (j+1))) (sq0.qd (mxN ts ps (j+1))) n ts n ps):=by
 have hlim:=h.ts.lim
 obtain ⟨a1,a2⟩:=okX_out (h.ts.ok j (by omega))
 obtain ⟨b1,b2⟩:=okX_out (h.ts.ok (j+1) hj)
 obtain ⟨⟨c1,c2⟩,c3,c4⟩:=okQ_out (h.pts j (by omega))
 obtain ⟨⟨d1,d2⟩,d3,d4⟩:=okQ_out (h.pts (j+1) hj)
 obtain ⟨s1,s2,s3,s4,s5,s6⟩:=sd_sz h hj
 have s7:=mx_sz h j (by omega)
 have hr:=round_sp hg0 vg0 sq0 ((j+1:Nat):Int) n0 f0 m0 g0 zb zn zd (sq0.qn (mxN ts ps j)) (sq0.qs (mxN ts ps j)) (sq0.qd (mxN ts ps j)) n ts n ps
 have e1:((j+1:Nat):Int) - 1=(j:Int):=by omega
 have ex:(px ps (j+1) - px ps j)*(px ps (j+1) - px ps j)+(py ps (j+1) - py ps j)*(py ps (j+1) - py ps j)=sdx ps j:=rfl
 have et:(qt ts (j+1) - qt ts j)*(qt ts (j+1) - qt ts j)=sdt ts j:=rfl
 simp only [e1,Int.toNat_natCast,qt_eq,px_eq,py_eq,qv_rat,ex,et] at hr
 rw [dT (show ((j+1:Nat):Int) < (n:Int) by omega),dT (show (0:Int)≤((j+1:Nat):Int) by omega),i64T (z:=(j:Int)) (by omega),dT (show (0:Int)≤(j:Int) by omega),dT (show (j:Int) < (n:Int) by omega),a1,okm_q a2,b1,okm_q b2,c1,c2,c3,c4,d1,d2,d3,d4,
  okl_rat (q:=px ps (j+1) - px ps j) (by omega),okl_rat (q:=py ps (j+1) - py ps j) (by omega),ok_rat (q:=qt ts (j+1) - qt ts j) (by omega),ok_rat (q:=sdx ps j) (by omega),ok_rat (q:=sdt ts j) (by omega),ok_rat (q:=sdx ps j / sdt ts j) (by omega),ok_rat (q:=mxN ts ps j) (by omega),i64T (z:=((j+1:Nat):Int)+1) (by omega)] at hr
 by_cases hq:mxN ts ps j < sdx ps j / sdt ts j
 ·rw [dT (cq_gt'.2 hq)] at hr
  have em:mxN ts ps (j+1)=sdx ps j / sdt ts j:=if_pos hq
  rw [em]
  exact step_sp hr
 ·rw [dF (fun hh=>hq (cq_gt'.1 hh))] at hr
  have em:mxN ts ps (j+1)=mxN ts ps j:=if_neg hq
  rw [em]
  exact step_sp hr
theorem sp_go (h:PlOk n ts n ps) (k:Nat):∀ j,n=j+1+k→LoopToB Try.prog 5 (lb 62 p_sp) (sh_sp ((j+1:Nat):Int) n0 f0 m0 g0 zb zn zd (sq0.qn (mxN ts ps j)) (sq0.qs (mxN ts ps j)) (sq0.qd (mxN ts ps j)) n ts n ps) (hp_sp ((j+1:Nat):Int) n0 f0 m0 g0 zb zn zd (sq0.qn (mxN ts ps j)) (sq0.qs (mxN ts ps j)) (sq0.qd (mxN ts ps j)) n ts n ps) (.exit 0) (sh_sp (n:Int) n0 f0 m0 g0 zb zn zd (sq0.qn (mxN ts ps (n - 1))) (sq0.qs (mxN ts ps (n - 1))) (sq0.qd (mxN ts ps (n - 1))) n ts n ps) (hp_sp (n:Int) n0 f0 m0 g0 zb zn zd (sq0.qn (mxN ts ps (n - 1))) (sq0.qs (mxN ts ps (n - 1))) (sq0.qd (mxN ts ps (n - 1))) n ts n ps):=by
 induction k with
 | zero=>
  intro j hj
  have:n=j+1:=by omega
  subst this
  refine .last (step_sp ?_) (by intro h;cases h)
  rw [round_sp,dF (show ¬ ((j+1:Nat):Int) < ((j+1:Nat):Int) by omega)]
  rfl
 | succ k ih=>
  intro j hj
  exact .more (sp_step h j (by omega)) (ih (j+1) (by omega))
end
def pre_sp (i:Int) (n0:Nat) (f0:Nat→Nat→AV) (m0:Nat) (g0:Nat→Nat→AV) (zb:Bool) (zn zd:BA) (mb:Bool) (mn md:BA) (n:Nat) (ts:List Value) (m:Nat) (ps:List Value):Prop:=i=1∧n=m∧mb=sq0.qn 0∧mn=sq0.qs 0∧md=sq0.qd 0∧PlOk n ts m ps
def post_sp (i:Int) (n0:Nat) (f0:Nat→Nat→AV) (m0:Nat) (g0:Nat→Nat→AV) (zb:Bool) (zn zd:BA) (mb:Bool) (mn md:BA) (n:Nat) (ts:List Value) (m:Nat) (ps:List Value) (ρ:Int×Bool×BA×BA):Prop:=ρ.2=(sq0.qn (mxN ts ps (n - 1)),sq0.qs (mxN ts ps (n - 1)),sq0.qd (mxN ts ps (n - 1)))
theorem loop_sp (i:Int) (n0:Nat) (f0:Nat→Nat→AV) (m0:Nat) (g0:Nat→Nat→AV) (zb:Bool) (zn zd:BA) (mb:Bool) (mn md:BA) (n:Nat) (ts:List Value) (m:Nat) (ps:List Value) (h:pre_sp i n0 f0 m0 g0 zb zn zd mb mn md n ts m ps):∃ ρ:Int×Bool×BA×BA,LoopToB Try.prog 5 (lb 62 p_sp) (sh_sp i n0 f0 m0 g0 zb zn zd mb mn md n ts m ps) (hp_sp i n0 f0 m0 g0 zb zn zd mb mn md n ts m ps) (.exit 0) (sh_sp ρ.1 n0 f0 m0 g0 zb zn zd ρ.2.1 ρ.2.2.1 ρ.2.2.2 n ts m ps) (hp_sp ρ.1 n0 f0 m0 g0 zb zn zd ρ.2.1 ρ.2.2.1 ρ.2.2.2 n ts m ps)∧post_sp i n0 f0 m0 g0 zb zn zd mb mn md n ts m ps ρ:=by
 obtain ⟨rfl,rfl,rfl,rfl,rfl,hP⟩:=h
 have hp:=hP.pos
 exact ⟨((n:Int),_,_,_),sp_go hP (n - 1) 0 (by omega),rfl⟩
def told_sp (κ:Int→Nat→(Nat→Nat→AV)→Nat→(Nat→Nat→AV)→Bool→ByteArray→ByteArray→Bool→ByteArray→ByteArray→Nat→List Value→Nat→List Value→Bool) (φ:Int→Nat→(Nat→Nat→AV)→Nat→(Nat→Nat→AV)→Bool→ByteArray→ByteArray→Bool→ByteArray→ByteArray→Nat→List Value→Nat→List Value→Int×Bool×ByteArray×ByteArray) (T:List AV) (H:Hp):Option (Bool×Ex×List AV×Hp):=
 match lget T 0,lget T 1,lget T 3,H with
 | .yld 4, .ptr 3 0, .val (.int .i64 i), [.row (.cells [.lst false 24 n0 f0,.lst false 41 m0 g0]) 30 .live, .row (.cells [.val (.bool zb), .val (.string zn), .val (.string zd)]) 24 .live, .row (.cells [.val (.bool mb), .val (.string mn), .val (.string md)]) 24 .live, .row (.cells [.lst false 24 n f_ts, .lst false 41 m f_ps]) 30 .live, .loop rr]=>bif T.length==40 then some (okV 3 n f_ts&&okV 6 m f_ps&&recOkS rr&&κ i n0 f0 m0 g0 zb zn zd mb mn md n (rowV 3 n f_ts) m (rowV 6 m f_ps), .exit 0,sh_sp ((φ i n0 f0 m0 g0 zb zn zd mb mn md n (rowV 3 n f_ts) m (rowV 6 m f_ps)).1) n0 f0 m0 g0 zb zn zd ((φ i n0 f0 m0 g0 zb zn zd mb mn md n (rowV 3 n f_ts) m (rowV 6 m f_ps)).2.1) ((φ i n0 f0 m0 g0 zb zn zd mb mn md n (rowV 3 n f_ts) m (rowV 6 m f_ps)).2.2.1) ((φ i n0 f0 m0 g0 zb zn zd mb mn md n (rowV 3 n f_ts) m (rowV 6 m f_ps)).2.2.2) n (rowV 3 n f_ts) m (rowV 6 m f_ps),hp_sp ((φ i n0 f0 m0 g0 zb zn zd mb mn md n (rowV 3 n f_ts) m (rowV 6 m f_ps)).1) n0 f0 m0 g0 zb zn zd ((φ i n0 f0 m0 g0 zb zn zd mb mn md n (rowV 3 n f_ts) m (rowV 6 m f_ps)).2.1) ((φ i n0 f0 m0 g0 zb zn zd mb mn md n (rowV 3 n f_ts) m (rowV 6 m f_ps)).2.2.1) ((φ i n0 f0 m0 g0 zb zn zd mb mn md n (rowV 3 n f_ts) m (rowV 6 m f_ps)).2.2.2) n (rowV 3 n f_ts) m (rowV 6 m f_ps)) else none
 | _,_,_,_=>none
abbrev KT_sp:Type:=Int→Nat→(Nat→Nat→AV)→Nat→(Nat→Nat→AV)→Bool→ByteArray→ByteArray→Bool→ByteArray→ByteArray→Nat→List Value→Nat→List Value→Bool
abbrev FT_sp:Type:=Int→Nat→(Nat→Nat→AV)→Nat→(Nat→Nat→AV)→Bool→ByteArray→ByteArray→Bool→ByteArray→ByteArray→Nat→List Value→Nat→List Value→Int×Bool×ByteArray×ByteArray
def LL_sp (κ:KT_sp) (φ:FT_sp) (L:LTab):LTab:=addLn 5 62 p_sp [0,1,3,1004] (told_sp κ φ) L
def phi_sp (i:Int) (n0:Nat) (f0:Nat→Nat→AV) (m0:Nat) (g0:Nat→Nat→AV) (zb:Bool) (zn:ByteArray) (zd:ByteArray) (mb:Bool) (mn:ByteArray) (md:ByteArray) (n:Nat) (ts:List Value) (m:Nat) (ps:List Value):Int×Bool×ByteArray×ByteArray:=Classical.epsilon fun ρ=>LoopToB Try.prog 5 (lb 62 p_sp) (sh_sp i n0 f0 m0 g0 zb zn zd mb mn md n ts m ps) (hp_sp i n0 f0 m0 g0 zb zn zd mb mn md n ts m ps) (.exit 0) (sh_sp (ρ.1) n0 f0 m0 g0 zb zn zd (ρ.2.1) (ρ.2.2.1) (ρ.2.2.2) n ts m ps) (hp_sp (ρ.1) n0 f0 m0 g0 zb zn zd (ρ.2.1) (ρ.2.2.1) (ρ.2.2.2) n ts m ps)∧post_sp i n0 f0 m0 g0 zb zn zd mb mn md n ts m ps ρ
theorem phi_sp_spec (i:Int) (n0:Nat) (f0:Nat→Nat→AV) (m0:Nat) (g0:Nat→Nat→AV) (zb:Bool) (zn:ByteArray) (zd:ByteArray) (mb:Bool) (mn:ByteArray) (md:ByteArray) (n:Nat) (ts:List Value) (m:Nat) (ps:List Value) (h:pre_sp i n0 f0 m0 g0 zb zn zd mb mn md n ts m ps):LoopToB Try.prog 5 (lb 62 p_sp) (sh_sp i n0 f0 m0 g0 zb zn zd mb mn md n ts m ps) (hp_sp i n0 f0 m0 g0 zb zn zd mb mn md n ts m ps) (.exit 0) (sh_sp ((phi_sp i n0 f0 m0 g0 zb zn zd mb mn md n ts m ps).1) n0 f0 m0 g0 zb zn zd ((phi_sp i n0 f0 m0 g0 zb zn zd mb mn md n ts m ps).2.1) ((phi_sp i n0 f0 m0 g0 zb zn zd mb mn md n ts m ps).2.2.1) ((phi_sp i n0 f0 m0 g0 zb zn zd mb mn md n ts m ps).2.2.2) n ts m ps) (hp_sp ((phi_sp i n0 f0 m0 g0 zb zn zd mb mn md n ts m ps).1) n0 f0 m0 g0 zb zn zd ((phi_sp i n0 f0 m0 g0 zb zn zd mb mn md n ts m ps).2.1) ((phi_sp i n0 f0 m0 g0 zb zn zd mb mn md n ts m ps).2.2.1) ((phi_sp i n0 f0 m0 g0 zb zn zd mb mn md n ts m ps).2.2.2) n ts m ps)∧post_sp i n0 f0 m0 g0 zb zn zd mb mn md n ts m ps (phi_sp i n0 f0 m0 g0 zb zn zd mb mn md n ts m ps):=Classical.epsilon_spec (loop_sp i n0 f0 m0 g0 zb zn zd mb mn md n ts m ps h)
def cond_sp (i:Int) (n0:Nat) (f0:Nat→Nat→AV) (m0:Nat) (g0:Nat→Nat→AV) (zb:Bool) (zn:ByteArray) (zd:ByteArray) (mb:Bool) (mn:ByteArray) (md:ByteArray) (n:Nat) (ts:List Value) (m:Nat) (ps:List Value):Bool:= @decide (pre_sp i n0 f0 m0 g0 zb zn zd mb mn md n ts m ps) (Classical.propDecidable _)
theorem cond_sp_eq (i:Int) (n0:Nat) (f0:Nat→Nat→AV) (m0:Nat) (g0:Nat→Nat→AV) (zb:Bool) (zn:ByteArray) (zd:ByteArray) (mb:Bool) (mn:ByteArray) (md:ByteArray) (n:Nat) (ts:List Value) (m:Nat) (ps:List Value) (h:pre_sp i n0 f0 m0 g0 zb zn zd mb mn md n ts m ps):cond_sp i n0 f0 m0 g0 zb zn zd mb mn md n ts m ps=true:= @decide_eq_true _ (Classical.propDecidable _) h
theorem told_sp_ok (T:List AV) (H:Hp) (e:Ex) (T1:List AV) (H1:Hp) (h:told_sp cond_sp phi_sp T H=some (true,e,T1,H1)):V.Ends Try.prog false 5 0 (.loop (lb 62 p_sp)) T H e T1 H1:=by
 unfold told_sp at h
 split at h
 ·rename_i i n0 f0 m0 g0 zb zn zd mb mn md n f_ts m f_ps rr h0 h1 h3
  rw [Bool.cond_eq_ite] at h
  split at h
  ·rename_i hlen
   rw [beq_iff_eq] at hlen
   simp only [Option.some.injEq,Prod.mk.injEq,Bool.and_eq_true,decide_eq_true_eq] at h
   obtain ⟨⟨⟨⟨k1,k2⟩,k3⟩,k4⟩,rfl,rfl,rfl⟩:=h
   obtain rfl:rr=rcS:=recOkS_out k3
   have kc:= @of_decide_eq_true _ (Classical.propDecidable _) k4
   refine Ends.pre (Ends.preH (phi_sp_spec i n0 f0 m0 g0 zb zn zd mb mn md n (rowV 3 n f_ts) m (rowV 6 m f_ps) kc).1.ends (sameH.cons (sameB.refl _) (sameH.cons (sameB.refl _) (sameH.cons (sameB.refl _) (sameH.cons ⟨⟨rfl,fun _ _ _ _ _ hh=>rel_trj (by kernel_rfl) (by kernel_rfl) k1 k2 hh⟩,rfl,rfl⟩ (sameH.cons (sameB.refl _) sameH.nil)))))) (fun α B w D ys hr=>slots_rel hlen (fun p hp y hy=> ?_) hr)
   simp only [List.mem_cons,List.not_mem_nil,or_false] at hp
   rcases hp with rfl | rfl | rfl
   ·rw [h0] at hy;exact hy
   ·rw [h1] at hy;exact hy
   ·rw [h3] at hy;exact hy
  ·cases h
 ·cases h
theorem LL_sp_ok {L:LTab} (h:LOk Try.prog L):LOk Try.prog (LL_sp cond_sp phi_sp L):=h.add2n body_sp told_sp_ok
end
end Go.Proofs.Ytdnmkehncpfnnaa.L
namespace Go.Proofs.Ytdnmkehncpfnnaa.L
open Go Go.V Go.RowKit Go.Proofs.Ytdnmkehncpfnnaa.Sp
open Go.Proofs (Try.prog)
noncomputable section
structure Pg where
 sv:Nat→List Value→Nat→List Value→Rat
 se:Nat→List Value→Nat→List Value→Int
def spE (n:Nat) (ts:List Value) (m:Nat) (ps:List Value):Int:=if ckN n ts m ps=0 then 0 else 1
def pg0:Pg where
 sv n ts m ps:=if ckN n ts m ps=0 then mxN ts ps (n - 1) else 0
 se:=spE
def tSpeed (C:Cg) (P:Pg) (Z:Qg):TF:=fun args=>match args with
 | [.agg [.lst _ 24 n f, .lst _ 41 m g]]=>some (okV 3 n f&&okV 6 m g&&C.ko n (rowV 3 n f) m (rowV 6 m g), .tup [Z.rat (P.sv n (rowV 3 n f) m (rowV 6 m g)), .val (.int .i64 (P.se n (rowV 3 n f) m (rowV 6 m g)))])
 | _=>none
theorem speed_call (C:Cg) (κ:KT_sp) (φ:FT_sp) (n:Nat) (ts:List Value) (m:Nat) (ps:List Value):letI q_2:=(rowV (3:Nat) n (vrow (3:Nat) ts));letI q_3:=(rowV (6:Nat) m (vrow (6:Nat) ps));letI q_1:=(φ (1:Int) n (vrow (3:Nat) ts) m (vrow (6:Nat) ps) false (ByteArray.mk #[]) (ByteArray.mk #[]) false (ByteArray.mk #[]) (ByteArray.mk #[]) n q_2 m q_3);
  (callA Try.prog ⟨addC 10 (tChk C) noC,fun _=>false,LL_sp κ φ noL⟩ 10 10 9 [aTrj n ts m ps]=(bif okV (3:Nat) n (vrow (3:Nat) ts)&&okV (6:Nat) m (vrow (6:Nat) ps)&&C.ko n q_2 m q_3 then (bif !decide (C.ck n q_2 m q_3=(0:Int)) then some (.tup [(.agg [(.val (.bool false)),(.val (.string (ByteArray.mk #[]))),(.val (.string (ByteArray.mk #[])))]),(.val (.int .i64 1))]) else (bif okV (3:Nat) n (vrow (3:Nat) ts)&&okV (6:Nat) m (vrow (6:Nat) ps)&&true&&κ (1:Int) n (vrow (3:Nat) ts) m (vrow (6:Nat) ps) false (ByteArray.mk #[]) (ByteArray.mk #[]) false (ByteArray.mk #[]) (ByteArray.mk #[]) n q_2 m q_3 then some (.tup [(.agg [(.val (.bool (q_1.snd.fst))),(.val (.string (q_1.snd.snd.fst))),(.val (.string (q_1.snd.snd.snd)))]),(.val (.int .i64 0))]) else none)) else none)):=by kernel_rfl
theorem speed_val (n:Nat) (ts:List Value) (m:Nat) (ps:List Value) (l1:ts.length=n*3) (l2:ps.length=m*6) (ho:koN n ts m ps=true):
  callA Try.prog ⟨addC 10 (tChk cg0) noC,fun _=>false,LL_sp cond_sp phi_sp noL⟩ 10 10 9 [aTrj n ts m ps]=some (.tup [sq0.rat (pg0.sv n ts m ps), .val (.int .i64 (pg0.se n ts m ps))]):=by
 rw [speed_call,rowV_vrow l1,rowV_vrow l2,okV_vrow,okV_vrow,show cg0.ko n ts m ps=true from ho]
 by_cases h:ckN n ts m ps=0
 ·have hP:=plOk_of ho h
  have hsv:pg0.sv n ts m ps=mxN ts ps (n - 1):=if_pos h
  have hse:pg0.se n ts m ps=0:=if_pos h
  have hq:pre_sp 1 n (vrow 3 ts) m (vrow 6 ps) false (ByteArray.mk #[]) (ByteArray.mk #[]) false (ByteArray.mk #[]) (ByteArray.mk #[]) n ts m ps:= ⟨rfl,hP.eq,qn_zero.symm,qs_zero.symm,qd_zero.symm,hP⟩
  have hr:=(phi_sp_spec _ _ _ _ _ _ _ _ _ _ _ _ _ _ _ hq).2
  rw [dT (show cg0.ck n ts m ps=0 from h),cond_sp_eq _ _ _ _ _ _ _ _ _ _ _ _ _ _ _ hq,hsv,hse]
  rw [show (phi_sp 1 n (vrow 3 ts) m (vrow 6 ps) false (ByteArray.mk #[]) (ByteArray.mk #[]) false (ByteArray.mk #[]) (ByteArray.mk #[]) n ts m ps).2=(sq0.qn (mxN ts ps (n - 1)),sq0.qs (mxN ts ps (n - 1)),sq0.qd (mxN ts ps (n - 1))) from hr]
  rfl
 ·have hsv:pg0.sv n ts m ps=0:=if_neg h
  have hse:pg0.se n ts m ps=1:=if_neg h
  rw [dF (show ¬ cg0.ck n ts m ps=0 from h),hsv,hse,rat_zero];rfl
theorem eSpeed:Entry Try.prog 9 (tSpeed cg0 pg0 sq0):=by
 refine entry_at (by kernel_rfl) (fun args r h=> ?_)
 unfold tSpeed at h
 split at h
 ·rename_i fl n f fl2 m g
  simp only [Option.some.injEq,Prod.mk.injEq,Bool.and_eq_true] at h
  obtain ⟨⟨⟨h1,h2⟩,h3⟩,rfl⟩:=h
  exact ⟨⟨addC 10 (tChk cg0) noC,fun _=>false,LL_sp cond_sp phi_sp noL⟩,10,10,_,_,(meets_none _).add eChk,(LL_sp_ok LOk.none).ok,speed_val n _ m _ (rowV_len 3 n f) (rowV_len 6 m g) h3,ImpL.cons (imp_trj h1 h2) (ImpL.refl _),Imp.refl _⟩
 ·cases h
end
end Go.Proofs.Ytdnmkehncpfnnaa.L
namespace Go.Proofs.Ytdnmkehncpfnnaa.L
open Go Go.V Go.RowKit Go.Proofs.Ytdnmkehncpfnnaa.Sp
open Go.Proofs (Try.prog)
noncomputable section
section
variable {n : Nat} {q : Nat → Rat}
theorem qt_cells {j:Nat} (hj:j < n):qt (cells3 n q) j=q j:=qat_cells3 n q hj
theorem okT_cells {j:Nat} (hj:j < n):okT (cells3 n q) j=true:=by
 unfold okT
 rw [cells3_b n q hj,cells3_n n q hj,cells3_d n q hj];rfl
theorem okX_cells {j:Nat} (hj:j < n) (hs:szq (q j)≤1000):okX (cells3 n q) j=true:=by
 unfold okX
 rw [okT_cells hj,cells3_n n q hj,cells3_d n q hj,asS_str,asS_str,okm_rat hs];rfl
end
end
end Go.Proofs.Ytdnmkehncpfnnaa.L
namespace Go.Proofs.Ytdnmkehncpfnnaa.L
open Go Go.V Go.ChangeShapes Go.WideShapes Go.RowKit Go.Deep Go.Joins Go.Proofs.Ytdnmkehncpfnnaa.Sp
open Go.Proofs (Try.prog)
noncomputable section
section
variable {H : Type} {enc : TypeId × Value → H} {w w' : World}
theorem back_arg {t:TypeId} {v:Value} {d:DataW H} {ps:List MemPlace} (hr:Try.prog.readableRec t=true) (hrow:t < Try.prog.types.size) (h:DataW.Trod enc Try.prog w 0 (fun _=>true) true t v d ps) (hb:Below w.heap.size w w'):
  DataW.Trod enc Try.prog w' 0 (fun b=>decide (b < w.heap.size)) true t v d ps:=
 Below.trod (by kernel_rfl) hr hrow h hb (fun x hx=>by obtain ⟨n,hn⟩:=h;exact DataW.trod_lt n _ _ _ hn x hx)
theorem slice_rel {t e:TypeId} {fuel:Nat} {v:Value} {x:DataW H×List MemPlace} (ht:Try.prog.underlying t=some (.slice e)) (hc:0 < Try.prog.cellsOf e) (h:DataW.trod enc Try.prog w 0 (fun _=>true) true fuel t [v]=some x):
  ∃ (n:Nat) (f:Nat→Nat→Value),n≤9223372036854775807∧(AV.lst false e n (fun j q=> .val (f j q))).Rel Try.prog NoA (fun _=>False) w NoD v∧∀ j,j < n→∃ m y,DataW.trod enc Try.prog w 0 (fun _=>true) true m e ((List.range (Try.prog.cellsOf e)).map (f j))=some y:=by
 rcases open_slice ht h with ⟨h0,_⟩ | ⟨a,len,cap,m,n,D,Pl,h0,hb,hl,hm,hmm,_,hx⟩
 ·cases h0
  exact ⟨0,fun _ _=>undef,Nat.zero_le _, ⟨none,0,rfl,Nat.le_refl _,(fun h=>by cases h), .inl rfl⟩,fun j hj=>by omega⟩
 ·cases h0
  have hm2:m=cap:=by rw [hmm];rfl
  have hmx:cap≤9223372036854775807:=hm
  by_cases hl0:len=0
  ·subst hl0
   exact ⟨0,fun _ _=>undef,Nat.zero_le _, ⟨some a,_,rfl,hl,(fun h=>by cases h), .inl rfl⟩,fun j hj=>by omega⟩
  ·obtain ⟨cs,hcs⟩:=choose_lt (α:=List Value) (p:=fun i l=>w.cells? 0 (a.add (i*Try.prog.cellsOf e)) (Try.prog.cellsOf e)=some l∧DataW.trod enc Try.prog w 0 (fun _=>true) true n e l=some (D i,Pl i)) (n:=len) (fun i hi=>hx i (by omega))
   have hcell:∀ j,j < len→(cs j).length=Try.prog.cellsOf e∧∀ q,q < Try.prog.cellsOf e→w.cell? (a.add (j*Try.prog.cellsOf e+q))=some ((cs j).getD q undef):=fun j hj=>by
    obtain ⟨_,h2,h3⟩:=World.cells?_some (hcs j hj).1
    refine ⟨h2,fun q hq=> ?_⟩
    have:=h3 q hq
    rw [add_add] at this
    rw [this,List.getD_eq_getElem?_getD,List.getElem?_eq_getElem (show q < (cs j).length by omega)];rfl
   have h00:=(hcell 0 (by omega)).2 0 hc
   have hsp:a.spot=none:=by
    have:a.add (0*Try.prog.cellsOf e+0)=a:=by rw [Nat.zero_mul];rfl
    rw [this] at h00
    exact World.cell?_spot h00
   obtain ⟨b,o,spot⟩:=a
   have hsp:spot=none:=hsp
   subst hsp
   have hadd:∀ i,(⟨b,o,none⟩:Addr).add i= ⟨b,o+i,none⟩:=fun i=>by
    unfold Addr.add
    split
    ·rename_i h;subst h;rfl
    ·rfl
   rw [hadd] at h00
   have hheap:∃ c ty fr,w.heap[b]? =some (.cells c ty fr):=by
    unfold World.cell? at h00
    simp only at h00
    split at h00
    ·rename_i c ty fr hh;exact ⟨c,ty,fr,hh⟩
    ·cases h00
   obtain ⟨c,ty,fr,hh⟩:=hheap
   have hget:∀ i y,w.cell? ⟨b,i,none⟩=some y→c[i]? =some y:=fun i y h=>by
    unfold World.cell? at h
    simp only [hh] at h
    exact h
   have hrel:(AV.lst false e len (fun j q=> .val ((cs j).getD q undef))).Rel Try.prog NoA (fun _=>False) w NoD (.slice (some ⟨b,o,none⟩) len cap):=by
    refine ⟨some ⟨b,o,none⟩,cap,rfl,hl,(fun h=>by cases h), .inr ⟨b,o,c,ty,fr,rfl,(fun h=>h),hh,fun j k hj hk=> ⟨(cs j).getD k undef, ?_,rfl⟩⟩⟩
    have:=(hcell j hj).2 k hk
    rw [hadd] at this
    rw [Nat.add_assoc]
    exact hget _ _ this
   refine ⟨len,fun j q=>(cs j).getD q undef,by omega,hrel,fun j hj=> ⟨n,(D j,Pl j), ?_⟩⟩
   have e1:(List.range (Try.prog.cellsOf e)).map (fun q=>(cs j).getD q undef)=cs j:=by
    have hl2:=(hcell j hj).1
    apply List.ext_getElem?
    intro i
    by_cases hi:i < Try.prog.cellsOf e
    ·rw [List.getElem?_map,List.getElem?_range hi,List.getElem?_eq_getElem (show i < (cs j).length by omega),Option.map_some,List.getD_eq_getElem?_getD,List.getElem?_eq_getElem (show i < (cs j).length by omega)];rfl
    ·rw [List.getElem?_eq_none (by simp;omega),List.getElem?_eq_none (by omega)]
   rw [e1]
   exact (hcs j hj).2
theorem cells_rat {fuel:Nat} {a b c:Value} {x:DataW H×List MemPlace} (h:DataW.trod enc Try.prog w 0 (fun _=>true) true fuel 24 [a,b,c]=some x):isRat a b c=true:=by
 obtain ⟨y0,y1,y2,n,_,_,h0,h1,h2⟩:=trod_struct3 (Try.underlying24) h
 have e0:Try.prog.cellsOf 4=1:=by kernel_rfl
 have e1:Try.prog.cellsOf 9=1:=by kernel_rfl
 simp only [e0,e1] at h0 h1 h2
 obtain ⟨b1,q1,_⟩:=DataW.trod_bool (show Try.prog.underlying _=some .bool from by kernel_rfl) h0
 obtain ⟨s1,q2,_⟩:=DataW.trod_string (show Try.prog.underlying _=some .string from by kernel_rfl) h1
 obtain ⟨s2,q3,_⟩:=DataW.trod_string (show Try.prog.underlying _=some .string from by kernel_rfl) h2
 cases q1;cases q2;cases q3
 rfl
theorem cells_pt {fuel:Nat} {a b c d e f:Value} {x:DataW H×List MemPlace} (h:DataW.trod enc Try.prog w 0 (fun _=>true) true fuel 41 [a,b,c,d,e,f]=some x):isRat a b c=true∧isRat d e f=true:=by
 obtain ⟨y0,y1,n,_,_,h0,h1⟩:=trod_struct2 (Try.underlying41) h
 have e0:Try.prog.cellsOf 24=3:=by kernel_rfl
 simp only [e0] at h0 h1
 exact ⟨cells_rat h0,cells_rat h1⟩
theorem row6 {l:List Value} (n:Nat) (f:Nat→Nat→Value) {j q:Nat} (sz:Nat) (hj:j < n) (hq:q < sz):(rowV sz n (fun j q=> .val (f j q))).getD (j*sz+q) undef=f j q:=by
 have h:=rowV_at (sz:=sz) (m:=n) (f:=fun j q=> .val (f j q)) (List.all_eq_true.2 fun i _=>rfl) hj hq
 exact (AV.val.inj h).symm
theorem arg_pts0 {fuel:Nat} {v:Value} {x:DataW H×List MemPlace} (h:DataW.trod enc Try.prog w 0 (fun _=>true) true fuel 22 [v]=some x):
  ∃ (n:Nat) (ps:List Value),ps.length=n*6∧okpN n ps=true∧(AV.lst false 41 n (vrow 6 ps)).Rel Try.prog NoA (fun _=>False) w NoD v:=by
 have ec:Try.prog.cellsOf 41=6:=by kernel_rfl
 obtain ⟨n,f,hn,hr,hx⟩:=slice_rel (e:=41) (by kernel_rfl) (by rw [ec];decide) h
 refine ⟨n,rowV 6 n (fun j q=> .val (f j q)),rowV_len _ _ _, ?_,row_normV (by kernel_rfl) (List.all_eq_true.2 fun i _=>rfl) hr⟩
 unfold okpN
 rw [Bool.and_eq_true,decide_eq_true_eq,List.all_eq_true]
 refine ⟨hn,fun j hj=> ?_⟩
 rw [List.mem_range] at hj
 obtain ⟨m,y,hy⟩:=hx j hj
 rw [ec] at hy
 obtain ⟨k1,k2⟩:=cells_pt (show DataW.trod enc Try.prog w 0 (fun _=>true) true m 41 [f j 0,f j 1,f j 2,f j 3,f j 4,f j 5]=some y from hy)
 unfold okP
 rw [row6 (l:= []) n f 6 hj (by decide),row6 (l:= []) n f 6 hj (by decide),row6 (l:= []) n f 6 hj (by decide),row6 (l:= []) n f 6 hj (by decide),row6 (l:= []) n f 6 hj (by decide),row6 (l:= []) n f 6 hj (by decide),k1,k2];rfl
theorem arg_pts {v:Value} {d:DataW H} {p:List MemPlace} (hv:∀ cs,v≠ .agg cs) (h:DataW.Trod enc Try.prog w 0 (fun _=>true) true 22 v d p):
  ∃ (n:Nat) (ps:List Value),ps.length=n*6∧okpN n ps=true∧(AV.lst false 41 n (vrow 6 ps)).Rel Try.prog NoA (fun _=>False) w NoD v:=by
 obtain ⟨n,hn⟩:=h
 have e:v.cells.toList= [v]:=by cases v <;> first | rfl | exact absurd rfl (hv _)
 rw [e] at hn
 exact arg_pts0 hn
end
end
end Go.Proofs.Ytdnmkehncpfnnaa.L
