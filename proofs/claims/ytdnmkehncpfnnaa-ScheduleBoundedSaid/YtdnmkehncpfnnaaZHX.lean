import Derived.Test.YtdnmkehncpfnnaaZV2
import Derived.Test.YtdnmkehncpfnnaaZQA
import Derived.Test.YtdnmkehncpfnnaaZMD
set_option linter.unusedVariables false
set_option linter.unusedSimpArgs false
namespace Go.Proofs.Ytdnmkehncpfnnaa.L
open Go Go.V Go.RowKit Go.Proofs.Ytdnmkehncpfnnaa.Sp
open Go.Proofs (Try.prog)
noncomputable section
abbrev BA:Type:=ByteArray
structure Hg where
 gr:BA→BA→Bool
 kv:Bool→BA→BA→Bool→BA→BA→Int
 ok:BA→BA→Bool
 ds:Rat→Rat→Rat→Rat→Rat
 st:Rat→Rat→Int→Int
 okn:BA→BA→Bool
 pos:Rat→Rat→Bool
def p1 (f:Bool→BA→BA→Option (Bool×AV)):TF:=fun args=>match args with
 | [.agg [.val (.bool b), .val (.string n), .val (.string d)]]=>f b n d
 | _=>none
def p2 (f:Bool→BA→BA→Bool→BA→BA→Option (Bool×AV)):TF:=fun args=>match args with
 | [.agg [.val (.bool b), .val (.string n), .val (.string d), .val (.bool c), .val (.string m), .val (.string e)]]=>f b n d c m e
 | _=>none
def p3 (f:Bool→BA→BA→Bool→BA→BA→Bool→BA→BA→Bool→BA→BA→Option (Bool×AV)):TF:=fun args=>match args with
 | [.agg [.val (.bool b), .val (.string n), .val (.string d), .val (.bool c), .val (.string m), .val (.string e)], .agg [.val (.bool b2), .val (.string n2), .val (.string d2), .val (.bool c2), .val (.string m2), .val (.string e2)]]=>f b n d c m e b2 n2 d2 c2 m2 e2
 | _=>none
def p4 (f:Bool→BA→BA→Bool→BA→BA→Int→Option (Bool×AV)):TF:=fun args=>match args with
 | [.agg [.val (.bool b), .val (.string n), .val (.string d)], .agg [.val (.bool c), .val (.string m), .val (.string e)], .val (.int .i64 g)]=>f b n d c m e g
 | _=>none
def tGreat (K:Hg):TF:=p1 fun b n d=>some (true, .val (.bool (K.gr n d)))
def tVCheck (K:Hg):TF:=p2 fun b n d c m e=>some (K.ok n d&&K.ok m e, .val (.int .i64 (K.kv b n d c m e)))
def tVBad (K:Hg):TF:=p2 fun b n d c m e=>some (K.ok n d&&K.ok m e, .val (.bool (!decide (K.kv b n d c m e=0))))
def tVDist (K:Hg) (Z:Qg):TF:=p3 fun b n d c m e b2 n2 d2 c2 m2 e2=>some (K.ok n d&&K.ok m e&&K.ok n2 d2&&K.ok m2 e2,Z.rat (K.ds (Z.qv b n d) (Z.qv c m e) (Z.qv b2 n2 d2) (Z.qv c2 m2 e2)))
def tSteps (S:Sg) (K:Hg) (Z:Qg):TF:=p4 fun b n d c m e g=>some (K.okn n d&&K.okn m e&&K.pos (Z.qv b n d) (Z.qv c m e)&&decide (1≤g)&&decide (g≤1000),S.int (K.st (Z.qv b n d) (Z.qv c m e) g))
def upN (q:Nat):Nat:=if rootN q*rootN q=q then rootN q else rootN q+1
def stN (x s:Rat) (g:Int):Int:=let q:=(x*((g:Rat)*(g:Rat)) / (s*s)).ceil;max 1 ((upN q.natAbs:Nat):Int)
def hg0:Hg where
 gr n d:=decide (12 < n.size) ||decide (12 < d.size)
 kv b n d c m e:=bif decide (sq0.ck b n d=0)&&decide (sq0.ck c m e=0) then 0 else 1
 ok n d:=decide (n.size≤12)&&decide (d.size≤12)
 ds x y u v:=(x - u)*(x - u)+(y - v)*(y - v)
 st:=stN
 okn n d:=decide (n.size≤200)&&decide (d.size≤200)
 pos x s:=decide (0≤x)&&decide (0 < s)
end
end Go.Proofs.Ytdnmkehncpfnnaa.L
namespace Go.Proofs.Ytdnmkehncpfnnaa.L
open Go Go.V Go.RowKit Go.Proofs.Ytdnmkehncpfnnaa.Sp
open Go.Proofs (Try.prog)
noncomputable section
abbrev w3 (b:Bool) (n d:BA):AV:= .agg [.val (.bool b), .val (.string n), .val (.string d)]
abbrev w6 (b:Bool) (n d:BA) (c:Bool) (m e:BA):AV:= .agg [.val (.bool b), .val (.string n), .val (.string d), .val (.bool c), .val (.string m), .val (.string e)]
def CQd (Z:Qg):FuncId→TF:=addC 14 (tQSub Z) (addC 8 (tQMul Z) (addC 29 (tQAdd Z) noC))
def CSt (S:Sg) (X:Xg) (Z:Qg):FuncId→TF:=addC 15 (tQOf Z) (addC 8 (tQMul Z) (addC 37 (tQQuo Z) (addC 49 (tQCeil S Z) (addC 50 (tRoot S X) (addC 28 (tOf S) (addC 51 (tAdd S) (addC 42 (tCompare S) noC)))))))
theorem great_tree (b:Bool) (n d:BA):callA Try.prog ⟨noC,Kall,noL⟩ 10 10 5 [w3 b n d]=
  (bif decide ((12:Int) < (↑(ByteArray.size n):Int)) then some (.val (.bool true)) else some (.val (.bool (decide ((12:Int) < (↑(ByteArray.size d):Int)))))):=by kernel_rfl
theorem vck_tree (Z:Qg) (b c:Bool) (n d m e:BA):callA Try.prog ⟨addC 24 (tQCheck Z) noC,Kall,noL⟩ 10 10 23 [w6 b n d c m e]=
  (bif Z.ok n d then (bif !decide (Z.ck b n d=(0:Int)) then some (.val (.int .i64 1)) else (bif Z.ok m e then (bif !decide (Z.ck c m e=(0:Int)) then some (.val (.int .i64 1)) else some (.val (.int .i64 0))) else none)) else none):=by kernel_rfl
theorem vbad_tree (K:Hg) (b c:Bool) (n d m e:BA):callA Try.prog ⟨addC 23 (tVCheck K) noC,Kall,noL⟩ 10 10 22 [w6 b n d c m e]=
  (bif K.ok n d&&K.ok m e then some (.val (.bool (!decide (K.kv b n d c m e=(0:Int))))) else none):=by kernel_rfl
theorem vdist_tree (Z:Qg) (b c b2 c2:Bool) (n d m e n2 d2 m2 e2:BA):letI q_4:=(Z.qv b n d - Z.qv b2 n2 d2);letI q_2:=(Z.qv (Z.qn q_4) (Z.qs q_4) (Z.qd q_4)*Z.qv (Z.qn q_4) (Z.qs q_4) (Z.qd q_4));letI q_5:=(Z.qv c m e - Z.qv c2 m2 e2);letI q_3:=(Z.qv (Z.qn q_5) (Z.qs q_5) (Z.qd q_5)*Z.qv (Z.qn q_5) (Z.qs q_5) (Z.qd q_5));letI q_1:=(Z.qv (Z.qn q_2) (Z.qs q_2) (Z.qd q_2)+Z.qv (Z.qn q_3) (Z.qs q_3) (Z.qd q_3));
  (callA Try.prog ⟨CQd Z,Kall,noL⟩ 10 10 16 [w6 b n d c m e,w6 b2 n2 d2 c2 m2 e2]=(bif Z.ok n d&&Z.ok n2 d2 then (bif Z.ok m e&&Z.ok m2 e2 then (bif Z.ok (Z.qs q_4) (Z.qd q_4)&&Z.ok (Z.qs q_4) (Z.qd q_4) then (bif Z.ok (Z.qs q_5) (Z.qd q_5)&&Z.ok (Z.qs q_5) (Z.qd q_5) then (bif Z.ok (Z.qs q_2) (Z.qd q_2)&&Z.ok (Z.qs q_3) (Z.qd q_3) then some (.agg [(.val (.bool (Z.qn q_1))),(.val (.string (Z.qs q_1))),(.val (.string (Z.qd q_1)))]) else none) else none) else none) else none) else none)):=by kernel_rfl
theorem steps_tree (S:Sg) (X:Xg) (Z:Qg) (b c:Bool) (n d m e:BA) (g:Int):letI q_2:=(Z.qv (Z.qn (Z.fr g (1:Int))) (Z.qs (Z.fr g (1:Int))) (Z.qd (Z.fr g (1:Int)))*Z.qv (Z.qn (Z.fr g (1:Int))) (Z.qs (Z.fr g (1:Int))) (Z.qd (Z.fr g (1:Int))));letI q_5:=(Z.qv b n d*Z.qv (Z.qn q_2) (Z.qs q_2) (Z.qd q_2));letI q_6:=(Z.qv c m e*Z.qv c m e);letI q_1:=(Z.qv (Z.qn q_5) (Z.qs q_5) (Z.qd q_5) / Z.qv (Z.qn q_6) (Z.qs q_6) (Z.qd q_6));letI q_7:=(Z.cl (Z.qv (Z.qn q_1) (Z.qs q_1) (Z.qd q_1)));letI q_3:=(S.val (S.ng q_7) (S.ms q_7));letI q_4:=(S.val (S.ng (X.rt q_3)) (S.ms (X.rt q_3))+S.val (S.ng (1:Int)) (S.ms (1:Int)));
  (callA Try.prog ⟨CSt S X Z,Kall,noL⟩ 10 10 27 [w3 b n d,w3 c m e, .val (.int .i64 g)]=(bif inI g then (bif inI g then (bif Z.ok (Z.qs (Z.fr g (1:Int))) (Z.qd (Z.fr g (1:Int)))&&Z.ok (Z.qs (Z.fr g (1:Int))) (Z.qd (Z.fr g (1:Int))) then (bif Z.ok n d&&Z.ok (Z.qs q_2) (Z.qd q_2) then (bif Z.ok m e&&Z.ok m e then (bif Z.ok (Z.qs q_5) (Z.qd q_5)&&Z.ok (Z.qs q_6) (Z.qd q_6) then (bif Z.ok (Z.qs q_1) (Z.qd q_1) then (bif X.ok2 (S.ms q_7) then (bif !X.rx q_3 then (bif S.ok (S.ms (X.rt q_3))&&S.ok (S.ms (1:Int)) then (bif S.ok (S.ms q_4)&&S.ok (S.ms (1:Int)) then (bif decide (S.cmz (S.val (S.ng q_4) (S.ms q_4)) (S.val (S.ng (1:Int)) (S.ms (1:Int))) < (0:Int)) then some (.agg [(.val (.bool (S.ng (1:Int)))),(.val (.string (S.ms (1:Int))))]) else some (.agg [(.val (.bool (S.ng q_4))),(.val (.string (S.ms q_4)))])) else none) else none) else (bif S.ok (S.ms (X.rt q_3))&&S.ok (S.ms (1:Int)) then (bif decide (S.cmz (S.val (S.ng (X.rt q_3)) (S.ms (X.rt q_3))) (S.val (S.ng (1:Int)) (S.ms (1:Int))) < (0:Int)) then some (.agg [(.val (.bool (S.ng (1:Int)))),(.val (.string (S.ms (1:Int))))]) else some (.agg [(.val (.bool (S.ng (X.rt q_3)))),(.val (.string (S.ms (X.rt q_3))))])) else none)) else none) else none) else none) else none) else none) else none) else none) else none)):=by kernel_rfl
end
end Go.Proofs.Ytdnmkehncpfnnaa.L
namespace Go.Proofs.Ytdnmkehncpfnnaa.L
open Go Go.V Go.RowKit Go.Proofs.Ytdnmkehncpfnnaa.Sp
open Go.Proofs (Try.prog)
noncomputable section
theorem ok12_out {n d:BA} (h:hg0.ok n d=true):n.size≤12∧d.size≤12:=by
 have h2:(decide (n.size≤12)&&decide (d.size≤12))=true:=h
 rwa [Bool.and_eq_true,decide_eq_true_eq,decide_eq_true_eq] at h2
theorem ok12_q {n d:BA} (h:hg0.ok n d=true):sq0.ok n d=true:=qok_in (by have:=ok12_out h;omega) (by have:=ok12_out h;omega)
theorem ok12_sz {b:Bool} {n d:BA} (h:hg0.ok n d=true):szq (sq0.qv b n d)≤12:=by
 have:=szq_val b n d
 have:=ok12_out h
 omega
theorem okn_out {n d:BA} (h:hg0.okn n d=true):n.size≤200∧d.size≤200:=by
 have h2:(decide (n.size≤200)&&decide (d.size≤200))=true:=h
 rwa [Bool.and_eq_true,decide_eq_true_eq,decide_eq_true_eq] at h2
theorem okn_sz {b:Bool} {n d:BA} (h:hg0.okn n d=true):szq (sq0.qv b n d)≤200:=by
 have:=szq_val b n d
 have:=okn_out h
 omega
theorem okn_q {n d:BA} (h:hg0.okn n d=true):sq0.ok n d=true:=qok_in (by have:=okn_out h;omega) (by have:=okn_out h;omega)
theorem eGreat:Entry Try.prog 5 (tGreat hg0):=by
 refine entry_of (E:= ⟨noC,Kall,noL⟩) (u:=10) (d:=10) (meets_none _) loops_none mixed (by kernel_rfl) (fun args r h=> ?_)
 unfold tGreat p1 at h
 split at h
 ·rename_i b n d
  simp only [Option.some.injEq,Prod.mk.injEq,true_and] at h
  subst h
  rw [great_tree]
  have e1:decide ((12:Int) < (n.size:Int))=decide (12 < n.size):=decide_eq_decide.2 (by omega)
  have e2:decide ((12:Int) < (d.size:Int))=decide (12 < d.size):=decide_eq_decide.2 (by omega)
  have e3:hg0.gr n d=(decide (12 < n.size) ||decide (12 < d.size)):=rfl
  rw [e1,e2,e3]
  cases decide (12 < n.size) <;> rfl
 ·cases h
theorem kv_eq (b c:Bool) (n d m e:BA):hg0.kv b n d c m e=bif decide (sq0.ck b n d=0)&&decide (sq0.ck c m e=0) then 0 else 1:=rfl
theorem eVCheck:Entry Try.prog 23 (tVCheck hg0):=by
 refine entry_of (E:= ⟨addC 24 (tQCheck sq0) noC,Kall,noL⟩) (u:=10) (d:=10) ((meets_none _).add eQCheck) loops_none mixed (by kernel_rfl) (fun args r h=> ?_)
 unfold tVCheck p2 at h
 split at h
 ·rename_i b n d c m e
  simp only [Option.some.injEq,Prod.mk.injEq,Bool.and_eq_true] at h
  obtain ⟨⟨h1,h2⟩,rfl⟩:=h
  rw [vck_tree,ok12_q h1,ok12_q h2,kv_eq]
  cases decide (sq0.ck b n d=0) <;> cases decide (sq0.ck c m e=0) <;> rfl
 ·cases h
theorem eVBad:Entry Try.prog 22 (tVBad hg0):=by
 refine entry_of (E:= ⟨addC 23 (tVCheck hg0) noC,Kall,noL⟩) (u:=10) (d:=10) ((meets_none _).add eVCheck) loops_none mixed (by kernel_rfl) (fun args r h=> ?_)
 unfold tVBad p2 at h
 split at h
 ·rename_i b n d c m e
  simp only [Option.some.injEq,Prod.mk.injEq] at h
  obtain ⟨h1,rfl⟩:=h
  rw [vbad_tree,h1];rfl
 ·cases h
theorem ds_eq (x y u v:Rat):hg0.ds x y u v=(x - u)*(x - u)+(y - v)*(y - v):=rfl
theorem CQd_ok:Meets Try.prog (CQd sq0):=(((meets_none _).add eQAdd).add eQMul).add eQSub
theorem ds_size {x y u v:Rat} (h1:szq x≤12) (h2:szq y≤12) (h3:szq u≤12) (h4:szq v≤12):szq (x - u)≤25∧szq (y - v)≤25∧szq ((x - u)*(x - u))≤50∧szq ((y - v)*(y - v))≤50∧szq ((x - u)*(x - u)+(y - v)*(y - v))≤101:=by
 have a1:=szq_sub x u
 have a2:=szq_sub y v
 have a3:=szq_mul (x - u) (x - u)
 have a4:=szq_mul (y - v) (y - v)
 have a5:=szq_add ((x - u)*(x - u)) ((y - v)*(y - v))
 omega
theorem eVDist:Entry Try.prog 16 (tVDist hg0 sq0):=by
 refine entry_of (E:= ⟨CQd sq0,Kall,noL⟩) (u:=10) (d:=10) CQd_ok loops_none mixed (by kernel_rfl) (fun args r h=> ?_)
 unfold tVDist p3 at h
 split at h
 ·rename_i b n d c m e b2 n2 d2 c2 m2 e2
  simp only [Option.some.injEq,Prod.mk.injEq,Bool.and_eq_true] at h
  obtain ⟨⟨⟨⟨h1,h2⟩,h3⟩,h4⟩,rfl⟩:=h
  have hcall:=vdist_tree sq0 b c b2 c2 n d m e n2 d2 m2 e2
  have o1:=ok12_q h1
  have o2:=ok12_q h2
  have o3:=ok12_q h3
  have o4:=ok12_q h4
  obtain ⟨s1,s2,s3,s4,s5⟩:=ds_size (ok12_sz (b:=b) h1) (ok12_sz (b:=c) h2) (ok12_sz (b:=b2) h3) (ok12_sz (b:=c2) h4)
  rw [ds_eq]
  generalize sq0.qv b n d=x at*
  generalize sq0.qv c m e=y at*
  generalize sq0.qv b2 n2 d2=u at*
  generalize sq0.qv c2 m2 e2=v at*
  have a1:=ok_rat (q:=x - u) (by omega)
  have a2:=ok_rat (q:=y - v) (by omega)
  have a3:=ok_rat (q:=(x - u)*(x - u)) (by omega)
  have a4:=ok_rat (q:=(y - v)*(y - v)) (by omega)
  simp only [qv_rat,o1,o2,o3,o4,a1,a2,a3,a4,Bool.and_self,cond_true] at hcall
  exact hcall
 ·cases h
theorem st_eq (x s:Rat) (g:Int):hg0.st x s g=max 1 ((upN (x*((g:Rat)*(g:Rat)) / (s*s)).ceil.natAbs:Nat):Int):=rfl
theorem pos_out {x s:Rat} (h:hg0.pos x s=true):0≤x∧0 < s:=by
 have h2:(decide (0≤x)&&decide (0 < s))=true:=h
 rwa [Bool.and_eq_true,decide_eq_true_eq,decide_eq_true_eq] at h2
theorem ceil_nn {q:Rat} (h:0≤q):0≤q.ceil:=by
 have h1:q≤((q.ceil:Int):Rat):=Rat.le_ceil
 have h2:=Rat.le_trans h h1
 have h3:((0:Int):Rat)≤((q.ceil:Int):Rat):=h2
 exact Rat.intCast_le_intCast.1 h3
theorem mul_nn {x y:Rat} (h1:0≤x) (h2:0≤y):0≤x*y:=Rat.mul_nonneg h1 h2
theorem quo_nn {x y:Rat} (h1:0≤x) (h2:0 < y):0≤x / y:=by
 rw [Rat.div_def]
 exact Rat.mul_nonneg h1 (Rat.le_of_lt (Rat.inv_pos.2 h2))
theorem sq_pos {s:Rat} (h:0 < s):0 < s*s:=Rat.mul_pos h h
theorem sz_g {g:Int} (h:1≤g∧g≤1000):szq (g:Rat)≤2:=by
 have h1:=szq_int g
 have h2:bs g.natAbs≤2:=bs_le (by have:(256:Nat) ^ 2=65536:=rfl;omega)
 omega
theorem steps_sz {x s:Rat} {g:Int} (hx:szq x≤200) (hs:szq s≤200) (hg:1≤g∧g≤1000) (hp:hg0.pos x s=true):
  szq ((g:Rat)*(g:Rat))≤4∧szq (x*((g:Rat)*(g:Rat)))≤204∧szq (s*s)≤400∧szq (x*((g:Rat)*(g:Rat)) / (s*s))≤605∧0≤(x*((g:Rat)*(g:Rat)) / (s*s)).ceil∧bs (x*((g:Rat)*(g:Rat)) / (s*s)).ceil.natAbs≤606:=by
 obtain ⟨p1,p2⟩:=pos_out hp
 have g1:=sz_g hg
 have a1:=szq_mul (g:Rat) (g:Rat)
 have a2:=szq_mul x ((g:Rat)*(g:Rat))
 have a3:=szq_mul s s
 have a4:=szq_div (x*((g:Rat)*(g:Rat))) (s*s)
 have a5:=bs_ceil (x*((g:Rat)*(g:Rat)) / (s*s))
 have a6:bs (x*((g:Rat)*(g:Rat)) / (s*s)).num.natAbs≤szq (x*((g:Rat)*(g:Rat)) / (s*s)):=Nat.le_max_left _ _
 have hg0:(0:Rat)≤(g:Rat):=by
  have:((0:Int):Rat)≤(g:Rat):=Rat.intCast_le_intCast.2 (by omega)
  exact this
 refine ⟨by omega,by omega,by omega,by omega,ceil_nn (quo_nn (mul_nn p1 (mul_nn hg0 hg0)) (sq_pos p2)),by omega⟩
end
end Go.Proofs.Ytdnmkehncpfnnaa.L
namespace Go.Proofs.Ytdnmkehncpfnnaa.L
open Go Go.V Go.RowKit Go.Proofs.Ytdnmkehncpfnnaa.Sp
open Go.Proofs (Try.prog)
noncomputable section
theorem ok2_ms {z:Int} (h:bs z.natAbs≤68719476736):xg0.ok2 (sg0.ms z)=true:=decide_eq_true (by rw [size_ms];exact h)
theorem CSt_ok:Meets Try.prog (CSt sg0 xg0 sq0):=((((((((meets_none _).add eCompare).add eAdd).add eOf).add eRoot).add eQCeil).add eQQuo).add eQMul).add eQOf
theorem inI_in' {z:Int} (h:1≤z∧z≤1000):inI z=true:=by
 unfold inI
 rw [decide_eq_true (show -9223372036854775808≤z by omega),decide_eq_true (show z≤9223372036854775807 by omega)];rfl
theorem cz_ltN (x y:Int):sg0.cmz x y < 0↔x < y:=by
 show cmpZ x y < 0↔_
 unfold cmpZ
 split <;> (try split) <;> omega
theorem cl_eq (q:Rat):sq0.cl q=q.ceil:=rfl
theorem frg (g:Int):sq0.fr g 1=(g:Rat):=fr_one g
theorem up_ex {N:Nat} (h:rootN N*rootN N=N):upN N=rootN N:=if_pos h
theorem up_in {N:Nat} (h:¬ rootN N*rootN N=N):upN N=rootN N+1:=if_neg h
theorem okz {z:Int} (h:bs z.natAbs≤1000):sg0.ok (sg0.ms z)=true:=ok_ms (by omega)
theorem bs1:bs (1:Int).natAbs≤1:=bs_one
theorem rt_nn (N:Nat):xg0.rt (N:Int)=((rootN N:Nat):Int):=by rw [x_rt (by omega),Int.natAbs_natCast]
theorem rx_nn (N:Nat):xg0.rx (N:Int)=decide (rootN N*rootN N=N):=by rw [x_rx (by omega),Int.natAbs_natCast]
theorem eSteps:Entry Try.prog 27 (tSteps sg0 hg0 sq0):=by
 refine entry_of (E:= ⟨CSt sg0 xg0 sq0,Kall,noL⟩) (u:=10) (d:=10) CSt_ok loops_none mixed (by kernel_rfl) (fun args r h=> ?_)
 unfold tSteps p4 at h
 split at h
 ·rename_i b n d c m e g
  simp only [Option.some.injEq,Prod.mk.injEq,Bool.and_eq_true,decide_eq_true_eq] at h
  obtain ⟨⟨⟨⟨⟨h1,h2⟩,h3⟩,h4⟩,h5⟩,rfl⟩:=h
  have hcall:=steps_tree sg0 xg0 sq0 b c n d m e g
  have o1:=okn_q h1
  have o2:=okn_q h2
  have z1:=okn_sz (b:=b) h1
  have z2:=okn_sz (b:=c) h2
  have ig:inI g=true:=inI_in' ⟨h4,h5⟩
  rw [st_eq]
  generalize sq0.qv b n d=x at*
  generalize sq0.qv c m e=s at*
  obtain ⟨s1,s2,s3,s4,s5,s6⟩:=steps_sz z1 z2 ⟨h4,h5⟩ h3
  have f2:=sz_g ⟨h4,h5⟩
  have a0:=ok_rat (q:=(g:Rat)) (by omega)
  have a1:=ok_rat (q:=(g:Rat)*(g:Rat)) (by omega)
  have a2:=ok_rat (q:=x*((g:Rat)*(g:Rat))) (by omega)
  have a3:=ok_rat (q:=s*s) (by omega)
  have a4:=ok_rat (q:=x*((g:Rat)*(g:Rat)) / (s*s)) (by omega)
  simp only [frg,qv_rat,val_ms,ig,o1,o2,a0,a1,a2,a3,a4,cl_eq,Bool.and_self,cond_true] at hcall
  rw [hcall]
  generalize (x*((g:Rat)*(g:Rat)) / (s*s)).ceil=q at*
  obtain ⟨N,rfl⟩:=Int.eq_ofNat_of_zero_le s5
  have r1:=bs_mono (root_le N)
  have k1:=bs_zadd ((rootN N:Nat):Int) 1
  have k2:=bs1
  rw [Int.natAbs_natCast] at s6 k1
  rw [rt_nn,rx_nn,ok2_ms (z:=((N:Nat):Int)) (by rw [Int.natAbs_natCast];omega),okz (z:=((rootN N:Nat):Int)) (by rw [Int.natAbs_natCast];omega),okz (z:=1) (by omega),okz (z:=((rootN N:Nat):Int)+1) (by omega),Int.natAbs_natCast]
  by_cases hx:rootN N*rootN N=N
  ·rw [dT hx,up_ex hx]
   by_cases h0:rootN N=0
   ·rw [h0,dT (show sg0.cmz ((0:Nat):Int) 1 < 0 from (cz_ltN _ _).2 (by decide))];rfl
   ·rw [dF (show ¬ sg0.cmz ((rootN N:Nat):Int) 1 < 0 from fun h=>by have:=(cz_ltN _ _).1 h;omega),show max (1:Int) ((rootN N:Nat):Int)=((rootN N:Nat):Int) by omega];rfl
  ·rw [dF hx,up_in hx,dF (show ¬ sg0.cmz (((rootN N:Nat):Int)+1) 1 < 0 from fun h=>by have:=(cz_ltN _ _).1 h;omega),show max (1:Int) ((rootN N+1:Nat):Int)=((rootN N:Nat):Int)+1 by omega];rfl
 ·cases h
end
end Go.Proofs.Ytdnmkehncpfnnaa.L
namespace Go.Proofs.Ytdnmkehncpfnnaa.L
open Go Go.V Go.RowKit Go.Proofs.Ytdnmkehncpfnnaa.Sp
open Go.Proofs (Try.prog)
noncomputable section
def EGp (K:Hg):Env:= ⟨addC 5 (gR (tGreat K)) noC,Kall,noL⟩
def okP (ps:List Value) (j:Nat):Bool:=isRat (ps.getD (j*6+0) undef) (ps.getD (j*6+1) undef) (ps.getD (j*6+2) undef)&&isRat (ps.getD (j*6+3) undef) (ps.getD (j*6+4) undef) (ps.getD (j*6+5) undef)
def grX (ps:List Value) (j:Nat):Bool:=hg0.gr (asS (ps.getD (j*6+1) undef)) (asS (ps.getD (j*6+2) undef))
def grY (ps:List Value) (j:Nat):Bool:=hg0.gr (asS (ps.getD (j*6+4) undef)) (asS (ps.getD (j*6+5) undef))
theorem okP_out {ps:List Value} {j:Nat} (h:okP ps j=true):isRat (ps.getD (j*6+0) undef) (ps.getD (j*6+1) undef) (ps.getD (j*6+2) undef)=true∧isRat (ps.getD (j*6+3) undef) (ps.getD (j*6+4) undef) (ps.getD (j*6+5) undef)=true:=by
 unfold okP at h
 rwa [Bool.and_eq_true] at h
abbrev p_gp:List Bool:= [false,true,false,true]
def sh_gp (n:Nat) (ps:List Value) (r:Bool) (i:Int):List AV:=slots 37 [(0, .lst false 41 n (vrow 6 ps)),(2, .val (.bool r)),(3, .val (.int .i64 i))]
def hp_gp (n:Nat) (ps:List Value) (r:Bool) (i:Int):Hp:= []
theorem body_gp:subC Try.prog 4 p_gp=some (.loop (lb 4 p_gp)):=by kernel_rfl
theorem code_gp:subC Try.prog 4 (false :: p_gp)=some (lb 4 p_gp):=by kernel_rfl
theorem round_gp (K:Hg) (n:Nat) (ps:List Value) (r:Bool) (i:Int):
  (roundA Try.prog (EGp K) 4 [0,2,3] (lb 4 p_gp) (false :: p_gp) (sh_gp n ps r i) (hp_gp n ps r i)=(bif decide (i < (↑n:Int)) then (bif decide ((0:Int)≤i)&&decide (i < (↑n:Int)) then (bif isRat (ps.getD (i.toNat*(6:Nat)+(0:Nat)) undef) (ps.getD (i.toNat*(6:Nat)+(1:Nat)) undef) (ps.getD (i.toNat*(6:Nat)+(2:Nat)) undef)&&true then (bif K.gr (asS (ps.getD (i.toNat*(6:Nat)+(1:Nat)) undef)) (asS (ps.getD (i.toNat*(6:Nat)+(2:Nat)) undef)) then some (.ret,slots 37 [(0,(.lst false 41 n (vrow (6:Nat) ps))),(2,(.val (.bool true))),(3,(.val (.int .i64 i)))], []) else (bif decide ((0:Int)≤i)&&decide (i < (↑n:Int)) then (bif isRat (ps.getD (i.toNat*(6:Nat)+(3:Nat)) undef) (ps.getD (i.toNat*(6:Nat)+(4:Nat)) undef) (ps.getD (i.toNat*(6:Nat)+(5:Nat)) undef)&&true then (bif K.gr (asS (ps.getD (i.toNat*(6:Nat)+(4:Nat)) undef)) (asS (ps.getD (i.toNat*(6:Nat)+(5:Nat)) undef)) then some (.ret,slots 37 [(0,(.lst false 41 n (vrow (6:Nat) ps))),(2,(.val (.bool true))),(3,(.val (.int .i64 i)))], []) else (bif inR IntKind.i64 (i+(1:Int)) then some (.normal,slots 37 [(0,(.lst false 41 n (vrow (6:Nat) ps))),(2,(.val (.bool r))),(3,(.val (.int .i64 (i+(1:Int)))))], []) else none)) else none) else none)) else none) else none) else some ((.exit 0),slots 37 [(0,(.lst false 41 n (vrow (6:Nat) ps))),(2,(.val (.bool r))),(3,(.val (.int .i64 i)))], []))):=by kernel_rfl
theorem step_gp {n:Nat} {ps:List Value} {r:Bool} {i:Int} {e:Ex} {T:List AV} {H:Hp} (h:roundA Try.prog (EGp hg0) 4 [0,2,3] (lb 4 p_gp) (false :: p_gp) (sh_gp n ps r i) (hp_gp n ps r i)=some (e,T,H)):V.Ends Try.prog false 0 0 (lb 4 p_gp) (sh_gp n ps r i) (hp_gp n ps r i) e T H:=
 round_ends ((meets_none _).add eGreat.gR) loops_none mixed code_gp h
theorem gp_step (n:Nat) (ps:List Value) (r:Bool) (i:Nat) (hi:i < n) (hn:n≤9223372036854775807) (h1:okP ps i=true) (h2:grX ps i=false) (h3:grY ps i=false):V.Ends Try.prog false 0 0 (lb 4 p_gp) (sh_gp n ps r i) (hp_gp n ps r i) .normal (sh_gp n ps r ((i+1:Nat):Int)) (hp_gp n ps r ((i+1:Nat):Int)):=by
 have hr:=round_gp hg0 n ps r i
 obtain ⟨k1,k2⟩:=okP_out h1
 have k3:hg0.gr (asS (ps.getD (i*6+1) undef)) (asS (ps.getD (i*6+2) undef))=false:=h2
 have k4:hg0.gr (asS (ps.getD (i*6+4) undef)) (asS (ps.getD (i*6+5) undef))=false:=h3
 rw [Int.toNat_natCast,dT (show (i:Int) < (n:Int) by omega),dT (show (0:Int)≤(i:Int) by omega),k1,k2,k3,k4,i64T (z:=(i:Int)+1) (by omega)] at hr
 exact step_gp hr
def pre_gp (n:Nat) (ps:List Value) (r:Bool) (i:Int):Prop:=i=0∧n≤9223372036854775807∧∀ j,j < n→okP ps j=true∧grX ps j=false∧grY ps j=false
def post_gp (n:Nat) (ps:List Value) (r:Bool) (i:Int) (ρ:Int):Prop:=True
theorem gp_go (n:Nat) (ps:List Value) (r:Bool) (hn:n≤9223372036854775807) (h:∀ j,j < n→okP ps j=true∧grX ps j=false∧grY ps j=false) (k:Nat):∀ i,n=i+k→LoopTo Try.prog (lb 4 p_gp) (sh_gp n ps r (i:Nat)) (hp_gp n ps r (i:Nat)) (.exit 0) (sh_gp n ps r (n:Int)) (hp_gp n ps r (n:Int)):=by
 induction k with
 | zero=>
  intro i hi
  have:i=n:=by omega
  subst this
  refine .last (step_gp ?_) (by intro h;cases h)
  rw [round_gp,dF (show ¬ ((i:Nat):Int) < (i:Int) by omega)]
  rfl
 | succ k ih=>
  intro i hi
  obtain ⟨h1,h2,h3⟩:=h i (by omega)
  exact .more (gp_step n ps r i (by omega) hn h1 h2 h3) (ih (i+1) (by omega))
theorem loop_gp (n:Nat) (ps:List Value) (r:Bool) (i:Int) (h:pre_gp n ps r i):∃ ρ:Int,LoopTo Try.prog (lb 4 p_gp) (sh_gp n ps r i) (hp_gp n ps r i) (.exit 0) (sh_gp n ps r ρ) (hp_gp n ps r ρ)∧post_gp n ps r i ρ:=by
 obtain ⟨rfl,hn,h⟩:=h
 exact ⟨(n:Int),gp_go n ps r hn h n 0 (by omega),trivial⟩
def told_gp (κ:Nat→List Value→Bool→Int→Bool) (φ:Nat→List Value→Bool→Int→Int) (T:List AV) (H:Hp):Option (Bool×Ex×List AV×Hp):=
 match lget T 0,lget T 2,lget T 3,H with
 | .lst false 41 n f_ps, .val (.bool r), .val (.int .i64 i), []=>bif T.length==37 then some (okV 6 n f_ps&&κ n (rowV 6 n f_ps) r i, .exit 0,sh_gp n (rowV 6 n f_ps) r ((φ n (rowV 6 n f_ps) r i)),hp_gp n (rowV 6 n f_ps) r ((φ n (rowV 6 n f_ps) r i))) else none
 | _,_,_,_=>none
abbrev KT_gp:Type:=Nat→List Value→Bool→Int→Bool
abbrev FT_gp:Type:=Nat→List Value→Bool→Int→Int
def LL_gp (κ:KT_gp) (φ:FT_gp) (L:LTab):LTab:=addLn 0 4 p_gp [0,2,3] (told_gp κ φ) L
def phi_gp (n:Nat) (ps:List Value) (r:Bool) (i:Int):Int:=Classical.epsilon fun ρ=>LoopTo Try.prog (lb 4 p_gp) (sh_gp n ps r i) (hp_gp n ps r i) (.exit 0) (sh_gp n ps r (ρ)) (hp_gp n ps r (ρ))∧post_gp n ps r i ρ
theorem phi_gp_spec (n:Nat) (ps:List Value) (r:Bool) (i:Int) (h:pre_gp n ps r i):LoopTo Try.prog (lb 4 p_gp) (sh_gp n ps r i) (hp_gp n ps r i) (.exit 0) (sh_gp n ps r ((phi_gp n ps r i))) (hp_gp n ps r ((phi_gp n ps r i)))∧post_gp n ps r i (phi_gp n ps r i):=Classical.epsilon_spec (loop_gp n ps r i h)
def cond_gp (n:Nat) (ps:List Value) (r:Bool) (i:Int):Bool:= @decide (pre_gp n ps r i) (Classical.propDecidable _)
theorem cond_gp_eq (n:Nat) (ps:List Value) (r:Bool) (i:Int) (h:pre_gp n ps r i):cond_gp n ps r i=true:= @decide_eq_true _ (Classical.propDecidable _) h
theorem told_gp_ok (T:List AV) (H:Hp) (e:Ex) (T1:List AV) (H1:Hp) (h:told_gp cond_gp phi_gp T H=some (true,e,T1,H1)):V.Ends Try.prog false 0 0 (.loop (lb 4 p_gp)) T H e T1 H1:=by
 unfold told_gp at h
 split at h
 ·rename_i n f_ps r i h0 h2 h3
  rw [Bool.cond_eq_ite] at h
  split at h
  ·rename_i hlen
   rw [beq_iff_eq] at hlen
   simp only [Option.some.injEq,Prod.mk.injEq,Bool.and_eq_true,decide_eq_true_eq] at h
   obtain ⟨⟨k1,k2⟩,rfl,rfl,rfl⟩:=h
   have kc:= @of_decide_eq_true _ (Classical.propDecidable _) k2
   refine Ends.pre (phi_gp_spec n (rowV 6 n f_ps) r i kc).1.ends (fun α B w D ys hr=>slots_rel hlen (fun p hp y hy=> ?_) hr)
   simp only [List.mem_cons,List.not_mem_nil,or_false] at hp
   rcases hp with rfl | rfl | rfl
   ·rw [h0] at hy;exact row_normV (by kernel_rfl) k1 hy
   ·rw [h2] at hy;exact hy
   ·rw [h3] at hy;exact hy
  ·cases h
 ·cases h
theorem LL_gp_ok {L:LTab} (h:LOk Try.prog L):LOk Try.prog (LL_gp cond_gp phi_gp L):=h.add2n body_gp told_gp_ok
end
end Go.Proofs.Ytdnmkehncpfnnaa.L
namespace Go.Proofs.Ytdnmkehncpfnnaa.L
open Go Go.V Go.RowKit Go.Proofs.Ytdnmkehncpfnnaa.Sp
open Go.Proofs (Try.prog)
noncomputable section
abbrev p_gx:List Bool:= [false,true,false,true]
def sh_gx (n:Nat) (ps:List Value) (r:Bool) (i:Int):List AV:=slots 37 [(0, .lst false 41 n (vrow 6 ps)),(2, .val (.bool r)),(3, .val (.int .i64 i))]
def hp_gx (n:Nat) (ps:List Value) (r:Bool) (i:Int):Hp:= []
theorem body_gx:subC Try.prog 4 p_gx=some (.loop (lb 4 p_gx)):=by kernel_rfl
def grP (ps:List Value) (j:Nat):Bool:=grX ps j ||grY ps j
theorem gx_last (n:Nat) (ps:List Value) (r:Bool) (i:Nat) (hi:i < n) (hn:n≤9223372036854775807) (h1:okP ps i=true) (h2:grP ps i=true):V.Ends Try.prog false 0 0 (lb 4 p_gp) (sh_gp n ps r i) (hp_gp n ps r i) .ret (sh_gp n ps true i) (hp_gp n ps true i):=by
 have hr:=round_gp hg0 n ps r i
 obtain ⟨k1,k2⟩:=okP_out h1
 unfold grP at h2
 rw [Int.toNat_natCast,dT (show (i:Int) < (n:Int) by omega),dT (show (0:Int)≤(i:Int) by omega),k1,k2] at hr
 by_cases h3:grX ps i=true
 ·have k3:hg0.gr (asS (ps.getD (i*6+1) undef)) (asS (ps.getD (i*6+2) undef))=true:=h3
  rw [k3] at hr
  exact step_gp hr
 ·rw [Bool.not_eq_true] at h3
  rw [h3,Bool.false_or] at h2
  have k3:hg0.gr (asS (ps.getD (i*6+1) undef)) (asS (ps.getD (i*6+2) undef))=false:=h3
  have k4:hg0.gr (asS (ps.getD (i*6+4) undef)) (asS (ps.getD (i*6+5) undef))=true:=h2
  rw [k3,k4] at hr
  exact step_gp hr
def pre_gx (n:Nat) (ps:List Value) (r:Bool) (i:Int):Prop:=i=0∧n≤9223372036854775807∧(∀ j,j < n→okP ps j=true)∧∃ m,m < n∧(∀ j,j < m→grP ps j=false)∧grP ps m=true
def post_gx (n:Nat) (ps:List Value) (r:Bool) (i:Int) (ρ:Bool×Int):Prop:=ρ.1=true
theorem gx_go (n:Nat) (ps:List Value) (r:Bool) (hn:n≤9223372036854775807) (h:∀ j,j < n→okP ps j=true) (m:Nat) (hm:m < n) (hg:∀ j,j < m→grP ps j=false) (hb:grP ps m=true) (k:Nat):∀ i,m=i+k→LoopTo Try.prog (lb 4 p_gp) (sh_gp n ps r (i:Nat)) (hp_gp n ps r (i:Nat)) .ret (sh_gp n ps true (m:Int)) (hp_gp n ps true (m:Int)):=by
 induction k with
 | zero=>
  intro i hi
  have:i=m:=by omega
  subst this
  exact .last (gx_last n ps r i hm hn (h i hm) hb) (by intro h;cases h)
 | succ k ih=>
  intro i hi
  have h2:=hg i (by omega)
  unfold grP at h2
  rw [Bool.or_eq_false_iff] at h2
  exact .more (gp_step n ps r i (by omega) hn (h i (by omega)) h2.1 h2.2) (ih (i+1) (by omega))
theorem loop_gx (n:Nat) (ps:List Value) (r:Bool) (i:Int) (h:pre_gx n ps r i):∃ ρ:Bool×Int,LoopTo Try.prog (lb 4 p_gx) (sh_gx n ps r i) (hp_gx n ps r i) .ret (sh_gx n ps ρ.1 ρ.2) (hp_gx n ps ρ.1 ρ.2)∧post_gx n ps r i ρ:=by
 obtain ⟨rfl,hn,h,m,hm,hg,hb⟩:=h
 exact ⟨(true,(m:Int)),gx_go n ps r hn h m hm hg hb m 0 (by omega),rfl⟩
def told_gx (κ:Nat→List Value→Bool→Int→Bool) (φ:Nat→List Value→Bool→Int→Bool×Int) (T:List AV) (H:Hp):Option (Bool×Ex×List AV×Hp):=
 match lget T 0,lget T 2,lget T 3,H with
 | .lst false 41 n f_ps, .val (.bool r), .val (.int .i64 i), []=>bif T.length==37 then some (okV 6 n f_ps&&κ n (rowV 6 n f_ps) r i, .ret,sh_gx n (rowV 6 n f_ps) ((φ n (rowV 6 n f_ps) r i).1) ((φ n (rowV 6 n f_ps) r i).2),hp_gx n (rowV 6 n f_ps) ((φ n (rowV 6 n f_ps) r i).1) ((φ n (rowV 6 n f_ps) r i).2)) else none
 | _,_,_,_=>none
abbrev KT_gx:Type:=Nat→List Value→Bool→Int→Bool
abbrev FT_gx:Type:=Nat→List Value→Bool→Int→Bool×Int
def LL_gx (κ:KT_gx) (φ:FT_gx) (L:LTab):LTab:=addLn 0 4 p_gx [0,2,3] (told_gx κ φ) L
def phi_gx (n:Nat) (ps:List Value) (r:Bool) (i:Int):Bool×Int:=Classical.epsilon fun ρ=>LoopTo Try.prog (lb 4 p_gx) (sh_gx n ps r i) (hp_gx n ps r i) (.ret) (sh_gx n ps (ρ.1) (ρ.2)) (hp_gx n ps (ρ.1) (ρ.2))∧post_gx n ps r i ρ
theorem phi_gx_spec (n:Nat) (ps:List Value) (r:Bool) (i:Int) (h:pre_gx n ps r i):LoopTo Try.prog (lb 4 p_gx) (sh_gx n ps r i) (hp_gx n ps r i) (.ret) (sh_gx n ps ((phi_gx n ps r i).1) ((phi_gx n ps r i).2)) (hp_gx n ps ((phi_gx n ps r i).1) ((phi_gx n ps r i).2))∧post_gx n ps r i (phi_gx n ps r i):=Classical.epsilon_spec (loop_gx n ps r i h)
def cond_gx (n:Nat) (ps:List Value) (r:Bool) (i:Int):Bool:= @decide (pre_gx n ps r i) (Classical.propDecidable _)
theorem cond_gx_eq (n:Nat) (ps:List Value) (r:Bool) (i:Int) (h:pre_gx n ps r i):cond_gx n ps r i=true:= @decide_eq_true _ (Classical.propDecidable _) h
theorem told_gx_ok (T:List AV) (H:Hp) (e:Ex) (T1:List AV) (H1:Hp) (h:told_gx cond_gx phi_gx T H=some (true,e,T1,H1)):V.Ends Try.prog false 0 0 (.loop (lb 4 p_gx)) T H e T1 H1:=by
 unfold told_gx at h
 split at h
 ·rename_i n f_ps r i h0 h2 h3
  rw [Bool.cond_eq_ite] at h
  split at h
  ·rename_i hlen
   rw [beq_iff_eq] at hlen
   simp only [Option.some.injEq,Prod.mk.injEq,Bool.and_eq_true,decide_eq_true_eq] at h
   obtain ⟨⟨k1,k2⟩,rfl,rfl,rfl⟩:=h
   have kc:= @of_decide_eq_true _ (Classical.propDecidable _) k2
   refine Ends.pre (phi_gx_spec n (rowV 6 n f_ps) r i kc).1.ends (fun α B w D ys hr=>slots_rel hlen (fun p hp y hy=> ?_) hr)
   simp only [List.mem_cons,List.not_mem_nil,or_false] at hp
   rcases hp with rfl | rfl | rfl
   ·rw [h0] at hy;exact row_normV (by kernel_rfl) k1 hy
   ·rw [h2] at hy;exact hy
   ·rw [h3] at hy;exact hy
  ·cases h
 ·cases h
theorem LL_gx_ok {L:LTab} (h:LOk Try.prog L):LOk Try.prog (LL_gx cond_gx phi_gx L):=h.add2n body_gx told_gx_ok
end
end Go.Proofs.Ytdnmkehncpfnnaa.L
namespace Go.Proofs.Ytdnmkehncpfnnaa.L
open Go Go.V Go.RowKit Go.Proofs.Ytdnmkehncpfnnaa.Sp
open Go.Proofs (Try.prog)
noncomputable section
def Imp (a b:AV):Prop:=∀ (B:Nat→Prop) (w:World) (y:Value),a.Rel Try.prog NoA B w NoD y→b.Rel Try.prog NoA B w NoD y
def ImpL (a b:List AV):Prop:=∀ (B:Nat→Prop) (w:World) (ys:List Value),RelL Try.prog NoA B w a NoD ys→RelL Try.prog NoA B w b NoD ys
theorem Imp.refl (a:AV):Imp a a:=fun _ _ _ h=>h
theorem ImpL.refl (a:List AV):ImpL a a:=fun _ _ _ h=>h
theorem ImpL.cons {a b:AV} {l m:List AV} (h:Imp a b) (k:ImpL l m):ImpL (a :: l) (b :: m):=fun B w ys hx=>by
 obtain ⟨y,zs,rfl,h1,h2⟩:=hx
 exact ⟨y,zs,rfl,h _ _ _ h1,k _ _ _ h2⟩
theorem Imp.agg {l m:List AV} (k:ImpL l m):Imp (.agg l) (.agg m):=fun B w y hx=>by
 obtain ⟨ys,rfl,h⟩:=hx
 exact ⟨ys,rfl,k _ _ _ h⟩
theorem Imp.tup {l m:List AV} (k:ImpL l m):Imp (.tup l) (.tup m):=fun B w y hx=>by
 obtain ⟨ys,rfl,h⟩:=hx
 exact ⟨ys,rfl,k _ _ _ h⟩
theorem Imp.row {fl:Bool} {t:TypeId} {sz n:Nat} {f:Nat→Nat→AV} (hc:Try.prog.cellsOf t=sz) (h:okV sz n f=true):Imp (.lst fl t n f) (.lst false t n (vrow sz (rowV sz n f))):=fun B w y hx=>row_normV hc h hx
theorem entry_at {g:FuncId} {f:TF} (hok:okFn Try.prog g=true) (h:∀ args r,f args=some (true,r)→∃ (E:Env) (u d:Nat) (args':List AV) (v:AV),Meets Try.prog E.C∧LoopsOk Try.prog E∧callA Try.prog E u d g args'=some v∧ImpL args args'∧Imp v r):Entry Try.prog g f:=by
 intro args r hr B w xs hB hx
 obtain ⟨E,u,d,args',v,hC,hL,h1,h2,h3⟩:=h args r hr
 refine (callA_sound hC hL mixed hok h1 B w xs hB (h2 B w _ hx)).mono ?_
 rintro e w' ⟨y,h4,h5,h6⟩
 exact ⟨y,h4,h5,h3 B w' y h6⟩
theorem rowV_len (sz n:Nat) (f:Nat→Nat→AV):(rowV sz n f).length=n*sz:=by simp [rowV]
theorem okV_vrow (sz n:Nat) (vs:List Value):okV sz n (vrow sz vs)=true:=List.all_eq_true.2 fun i _=>rfl
theorem rowV_vrow {sz n:Nat} {vs:List Value} (h:vs.length=n*sz):rowV sz n (vrow sz vs)=vs:=by
 apply List.ext_getElem?
 intro i
 by_cases hi:i < n*sz
 ·unfold rowV
  rw [List.getElem?_map,List.getElem?_range hi,List.getElem?_eq_getElem (show i < vs.length by omega)]
  show some (vs.getD (i / sz*sz+i % sz) undef)=_
  rw [Nat.div_add_mod',List.getD_eq_getElem?_getD,List.getElem?_eq_getElem (show i < vs.length by omega)];rfl
 ·rw [List.getElem?_eq_none (by rw [rowV_len];omega),List.getElem?_eq_none (by omega)]
theorem first_of {p:Nat→Bool} (n:Nat) (h:(List.range n).any p=true):∃ m,m < n∧(∀ j,j < m→p j=false)∧p m=true:=by
 induction n with
 | zero=>cases h
 | succ n ih=>
  by_cases hn:(List.range n).any p=true
  ·obtain ⟨m,h1,h2,h3⟩:=ih hn
   exact ⟨m,by omega,h2,h3⟩
  ·rw [Bool.not_eq_true,List.any_eq_false] at hn
   rw [List.range_succ,List.any_append,List.any_eq_false.2 hn] at h
   simp only [List.any_cons,List.any_nil,Bool.or_false,Bool.false_or] at h
   exact ⟨n,by omega,fun j hj=>by have:=hn j (List.mem_range.2 hj);rwa [Bool.not_eq_true] at this,h⟩
theorem all_lt {p:Nat→Bool} {n:Nat} (h:(List.range n).all p=true) {j:Nat} (hj:j < n):p j=true:=List.all_eq_true.1 h j (List.mem_range.2 hj)
theorem none_lt {p:Nat→Bool} {n:Nat} (h:¬ (List.range n).any p=true) {j:Nat} (hj:j < n):p j=false:=by
 rw [Bool.not_eq_true,List.any_eq_false] at h
 have:=h j (List.mem_range.2 hj)
 rwa [Bool.not_eq_true] at this
structure Tg where
 okp:Nat→List Value→Bool
 gp:Nat→List Value→Bool
def okpN (n:Nat) (ps:List Value):Bool:=decide (n≤9223372036854775807)&&(List.range n).all (okP ps)
def gpN (n:Nat) (ps:List Value):Bool:=(List.range n).any (grP ps) ||(decide (10 < n)&&decide (n≤1000) ||decide (1005 < n))
def tg0:Tg where
 okp:=okpN
 gp:=gpN
theorem okpN_out {n:Nat} {ps:List Value} (h:tg0.okp n ps=true):n≤9223372036854775807∧∀ j,j < n→okP ps j=true:=by
 have h:(decide _&&(List.range n).all (okP ps))=true:=h
 rw [Bool.and_eq_true,decide_eq_true_eq] at h
 exact ⟨h.1,fun j hj=>all_lt h.2 hj⟩
def tGP (T:Tg):TF:=fun args=>match args with
 | [.lst _ 41 n f]=>some (okV 6 n f&&T.okp n (rowV 6 n f), .val (.bool (T.gp n (rowV 6 n f))))
 | _=>none
theorem gp_call (κ:KT_gp) (φ:FT_gp) (n:Nat) (ps:List Value):callA Try.prog ⟨noC,Kall,LL_gp κ φ noL⟩ 10 10 4 [.lst false 41 n (vrow 6 ps)]=
  (bif okV (6:Nat) n (vrow (6:Nat) ps)&&κ n (rowV (6:Nat) n (vrow (6:Nat) ps)) false (0:Int) then (bif decide ((10:Int) < (↑n:Int)) then (bif decide ((↑n:Int)≤(1000:Int)) then some (.val (.bool true)) else some (.val (.bool (decide ((1005:Int) < (↑n:Int)))))) else some (.val (.bool (decide ((1005:Int) < (↑n:Int)))))) else none):=by kernel_rfl
theorem gx_call (κ:KT_gx) (φ:FT_gx) (n:Nat) (ps:List Value):callA Try.prog ⟨noC,Kall,LL_gx κ φ noL⟩ 10 10 4 [.lst false 41 n (vrow 6 ps)]=
  (bif okV (6:Nat) n (vrow (6:Nat) ps)&&κ n (rowV (6:Nat) n (vrow (6:Nat) ps)) false (0:Int) then some (.val (.bool ((φ n (rowV (6:Nat) n (vrow (6:Nat) ps)) false (0:Int)).fst))) else none):=by kernel_rfl
theorem eGP:Entry Try.prog 4 (tGP tg0):=by
 refine entry_at (by kernel_rfl) (fun args r h=> ?_)
 unfold tGP at h
 split at h
 ·rename_i fl n f
  simp only [Option.some.injEq,Prod.mk.injEq,Bool.and_eq_true] at h
  obtain ⟨⟨h1,h2⟩,rfl⟩:=h
  have hI:ImpL [.lst fl 41 n f] [.lst false 41 n (vrow 6 (rowV 6 n f))]:=ImpL.cons (Imp.row (by kernel_rfl) h1) (ImpL.refl _)
  have hl:=rowV_len 6 n f
  generalize rowV 6 n f=ps at*
  obtain ⟨hn,hp⟩:=okpN_out h2
  by_cases hg:(List.range n).any (grP ps)=true
  ·have hq:pre_gx n ps false 0:= ⟨rfl,hn,hp,first_of n hg⟩
   refine ⟨⟨noC,Kall,LL_gx cond_gx phi_gx noL⟩,10,10,_,_,meets_none _,(LL_gx_ok LOk.none).ok, ?_,hI,Imp.refl _⟩
   have e:tg0.gp n ps=true:=by show gpN n ps=true;unfold gpN;rw [hg];rfl
   have e2:(phi_gx n ps false 0).fst=true:=(phi_gx_spec _ _ _ _ hq).2
   rw [gx_call,okV_vrow,rowV_vrow hl,cond_gx_eq _ _ _ _ hq,e,e2];rfl
  ·have hq:pre_gp n ps false 0:= ⟨rfl,hn,fun j hj=> ⟨hp j hj,by have:=none_lt hg hj;unfold grP at this;rw [Bool.or_eq_false_iff] at this;exact this⟩⟩
   refine ⟨⟨noC,Kall,LL_gp cond_gp phi_gp noL⟩,10,10,_,_,meets_none _,(LL_gp_ok LOk.none).ok, ?_,hI,Imp.refl _⟩
   have e:tg0.gp n ps=(decide (10 < n)&&decide (n≤1000) ||decide (1005 < n)):=by show gpN n ps=_;unfold gpN;rw [Bool.eq_false_iff.2 hg];rfl
   rw [gp_call,okV_vrow,rowV_vrow hl,cond_gp_eq _ _ _ _ hq,e]
   by_cases h3:10 < n
   ·rw [decide_eq_true h3,dT (show (10:Int) < (n:Int) by omega)]
    by_cases h4:n≤1000
    ·rw [decide_eq_true h4,dT (show (n:Int)≤1000 by omega)];rfl
    ·rw [decide_eq_false h4,dF (show ¬ (n:Int)≤1000 by omega)]
     rw [show decide ((1005:Int) < (n:Int))=decide (1005 < n) from decide_eq_decide.2 (by omega)];rfl
   ·rw [decide_eq_false h3,dF (show ¬ (10:Int) < (n:Int) by omega)]
    rw [show decide ((1005:Int) < (n:Int))=decide (1005 < n) from decide_eq_decide.2 (by omega)];rfl
 ·cases h
end
end Go.Proofs.Ytdnmkehncpfnnaa.L
namespace Go.Proofs.Ytdnmkehncpfnnaa.L
open Go Go.V Go.RowKit Go.Proofs.Ytdnmkehncpfnnaa.Sp
open Go.Proofs (Try.prog)
noncomputable section
def EIx (K:Hg):Env:= ⟨addC 22 (gP (tVBad K)) noC,Kall,noL⟩
def okQ (ps:List Value) (j:Nat):Bool:=okP ps j&&(hg0.ok (asS (ps.getD (j*6+1) undef)) (asS (ps.getD (j*6+2) undef))&&hg0.ok (asS (ps.getD (j*6+4) undef)) (asS (ps.getD (j*6+5) undef)))
def kvP (ps:List Value) (j:Nat):Int:=hg0.kv (asB (ps.getD (j*6+0) undef)) (asS (ps.getD (j*6+1) undef)) (asS (ps.getD (j*6+2) undef)) (asB (ps.getD (j*6+3) undef)) (asS (ps.getD (j*6+4) undef)) (asS (ps.getD (j*6+5) undef))
def badP (ps:List Value) (j:Nat):Bool:= !decide (kvP ps j=0)
theorem okQ_out {ps:List Value} {j:Nat} (h:okQ ps j=true):(isRat (ps.getD (j*6+0) undef) (ps.getD (j*6+1) undef) (ps.getD (j*6+2) undef)=true∧isRat (ps.getD (j*6+3) undef) (ps.getD (j*6+4) undef) (ps.getD (j*6+5) undef)=true)∧hg0.ok (asS (ps.getD (j*6+1) undef)) (asS (ps.getD (j*6+2) undef))=true∧hg0.ok (asS (ps.getD (j*6+4) undef)) (asS (ps.getD (j*6+5) undef))=true:=by
 unfold okQ at h
 rw [Bool.and_eq_true,Bool.and_eq_true] at h
 exact ⟨okP_out h.1,h.2⟩
abbrev p_ix:List Bool:= [false,true,false,true]
def sh_ix (n:Nat) (ps:List Value) (r:Int) (n1:Int) (i:Int):List AV:=slots 19 [(0, .lst false 41 n (vrow 6 ps)),(1, .val (.func (.func 22) (.mk []) (.mk []))),(4, .val (.int .i64 r)),(7, .val (.int .i64 n1)),(8, .val (.int .i64 i))]
def hp_ix (n:Nat) (ps:List Value) (r:Int) (n1:Int) (i:Int):Hp:= []
theorem body_ix:subC Try.prog 47 p_ix=some (.loop (lb 47 p_ix)):=by kernel_rfl
theorem code_ix:subC Try.prog 47 (false :: p_ix)=some (lb 47 p_ix):=by kernel_rfl
theorem round_ix (K:Hg) (n:Nat) (ps:List Value) (r:Int) (n1:Int) (i:Int):letI q_1:=(ps.getD (i.toNat*(6:Nat)+(1:Nat)) undef);letI q_2:=(ps.getD (i.toNat*(6:Nat)+(2:Nat)) undef);letI q_3:=(ps.getD (i.toNat*(6:Nat)+(4:Nat)) undef);letI q_4:=(ps.getD (i.toNat*(6:Nat)+(5:Nat)) undef);
  (roundA Try.prog (EIx K) 47 [0,1,4,7,8] (lb 47 p_ix) (false :: p_ix) (sh_ix n ps r n1 i) (hp_ix n ps r n1 i)=(bif decide (i < n1) then (bif decide ((0:Int)≤i)&&decide (i < (↑n:Int)) then (bif isRat (ps.getD (i.toNat*(6:Nat)+(0:Nat)) undef) q_1 q_2&&isRat (ps.getD (i.toNat*(6:Nat)+(3:Nat)) undef) q_3 q_4&&(K.ok (asS q_1) (asS q_2)&&K.ok (asS q_3) (asS q_4)) then (bif !decide (K.kv (asB (ps.getD (i.toNat*(6:Nat)+(0:Nat)) undef)) (asS q_1) (asS q_2) (asB (ps.getD (i.toNat*(6:Nat)+(3:Nat)) undef)) (asS q_3) (asS q_4)=(0:Int)) then some (.ret,slots 19 [(0,(.lst false 41 n (vrow (6:Nat) ps))),(1,(.val (.func (Fn.func (22:FuncId)) (.mk ([]:List Value)) (.mk ([]:List Value))))),(4,(.val (.int .i64 i))),(7,(.val (.int .i64 n1))),(8,(.val (.int .i64 i)))], []) else (bif inR IntKind.i64 (i+(1:Int)) then some (.normal,slots 19 [(0,(.lst false 41 n (vrow (6:Nat) ps))),(1,(.val (.func (Fn.func (22:FuncId)) (.mk ([]:List Value)) (.mk ([]:List Value))))),(4,(.val (.int .i64 r))),(7,(.val (.int .i64 n1))),(8,(.val (.int .i64 (i+(1:Int)))))], []) else none)) else none) else none) else some ((.exit 0),slots 19 [(0,(.lst false 41 n (vrow (6:Nat) ps))),(1,(.val (.func (Fn.func (22:FuncId)) (.mk ([]:List Value)) (.mk ([]:List Value))))),(4,(.val (.int .i64 r))),(7,(.val (.int .i64 n1))),(8,(.val (.int .i64 i)))], []))):=by kernel_rfl
theorem step_ix {n:Nat} {ps:List Value} {r:Int} {n1:Int} {i:Int} {e:Ex} {T:List AV} {H:Hp} (h:roundA Try.prog (EIx hg0) 47 [0,1,4,7,8] (lb 47 p_ix) (false :: p_ix) (sh_ix n ps r n1 i) (hp_ix n ps r n1 i)=some (e,T,H)):V.Ends Try.prog false 0 0 (lb 47 p_ix) (sh_ix n ps r n1 i) (hp_ix n ps r n1 i) e T H:=
 round_ends ((meets_none _).add eVBad.gP) loops_none mixed code_ix h
theorem ix_step (n:Nat) (ps:List Value) (r:Int) (i:Nat) (hi:i < n) (hn:n≤9223372036854775807) (h1:okQ ps i=true) (h2:badP ps i=false):V.Ends Try.prog false 0 0 (lb 47 p_ix) (sh_ix n ps r n i) (hp_ix n ps r n i) .normal (sh_ix n ps r n ((i+1:Nat):Int)) (hp_ix n ps r n ((i+1:Nat):Int)):=by
 have hr:=round_ix hg0 n ps r n i
 obtain ⟨⟨k1,k2⟩,k3,k4⟩:=okQ_out h1
 unfold badP kvP at h2
 simp only [Int.toNat_natCast] at hr
 rw [dT (show (i:Int) < (n:Int) by omega),dT (show (0:Int)≤(i:Int) by omega),k1,k2,k3,k4,h2,i64T (z:=(i:Int)+1) (by omega)] at hr
 exact step_ix hr
theorem ix_stop (n:Nat) (ps:List Value) (r:Int) (i:Nat) (hi:i < n) (h1:okQ ps i=true) (h2:badP ps i=true):V.Ends Try.prog false 0 0 (lb 47 p_ix) (sh_ix n ps r n i) (hp_ix n ps r n i) .ret (sh_ix n ps i n i) (hp_ix n ps i n i):=by
 have hr:=round_ix hg0 n ps r n i
 obtain ⟨⟨k1,k2⟩,k3,k4⟩:=okQ_out h1
 unfold badP kvP at h2
 simp only [Int.toNat_natCast] at hr
 rw [dT (show (i:Int) < (n:Int) by omega),dT (show (0:Int)≤(i:Int) by omega),k1,k2,k3,k4,h2] at hr
 exact step_ix hr
def pre_ix (n:Nat) (ps:List Value) (r n1 i:Int):Prop:=n1=n∧i=0∧n≤9223372036854775807∧∀ j,j < n→okQ ps j=true∧badP ps j=false
def post_ix (n:Nat) (ps:List Value) (r n1 i:Int) (ρ:Int):Prop:=True
theorem ix_go (n:Nat) (ps:List Value) (r:Int) (hn:n≤9223372036854775807) (h:∀ j,j < n→okQ ps j=true∧badP ps j=false) (k:Nat):∀ i,n=i+k→LoopTo Try.prog (lb 47 p_ix) (sh_ix n ps r n (i:Nat)) (hp_ix n ps r n (i:Nat)) (.exit 0) (sh_ix n ps r n (n:Int)) (hp_ix n ps r n (n:Int)):=by
 induction k with
 | zero=>
  intro i hi
  have:i=n:=by omega
  subst this
  refine .last (step_ix ?_) (by intro h;cases h)
  rw [round_ix,dF (show ¬ ((i:Nat):Int) < (i:Int) by omega)]
  rfl
 | succ k ih=>
  intro i hi
  obtain ⟨h1,h2⟩:=h i (by omega)
  exact .more (ix_step n ps r i (by omega) hn h1 h2) (ih (i+1) (by omega))
theorem loop_ix (n:Nat) (ps:List Value) (r n1 i:Int) (h:pre_ix n ps r n1 i):∃ ρ:Int,LoopTo Try.prog (lb 47 p_ix) (sh_ix n ps r n1 i) (hp_ix n ps r n1 i) (.exit 0) (sh_ix n ps r n1 ρ) (hp_ix n ps r n1 ρ)∧post_ix n ps r n1 i ρ:=by
 obtain ⟨rfl,rfl,hn,h⟩:=h
 exact ⟨(n:Int),ix_go n ps r hn h n 0 (by omega),trivial⟩
def told_ix (κ:Nat→List Value→Int→Int→Int→Bool) (φ:Nat→List Value→Int→Int→Int→Int) (T:List AV) (H:Hp):Option (Bool×Ex×List AV×Hp):=
 match lget T 0,lget T 1,lget T 4,lget T 7,lget T 8,H with
 | .lst false 41 n f_ps, .val (.func (.func 22) (.mk []) (.mk [])), .val (.int .i64 r), .val (.int .i64 n1), .val (.int .i64 i), []=>bif T.length==19 then some (okV 6 n f_ps&&κ n (rowV 6 n f_ps) r n1 i, .exit 0,sh_ix n (rowV 6 n f_ps) r n1 ((φ n (rowV 6 n f_ps) r n1 i)),hp_ix n (rowV 6 n f_ps) r n1 ((φ n (rowV 6 n f_ps) r n1 i))) else none
 | _,_,_,_,_,_=>none
abbrev KT_ix:Type:=Nat→List Value→Int→Int→Int→Bool
abbrev FT_ix:Type:=Nat→List Value→Int→Int→Int→Int
def LL_ix (κ:KT_ix) (φ:FT_ix) (L:LTab):LTab:=addLn 0 47 p_ix [0,1,4,7,8] (told_ix κ φ) L
def phi_ix (n:Nat) (ps:List Value) (r:Int) (n1:Int) (i:Int):Int:=Classical.epsilon fun ρ=>LoopTo Try.prog (lb 47 p_ix) (sh_ix n ps r n1 i) (hp_ix n ps r n1 i) (.exit 0) (sh_ix n ps r n1 (ρ)) (hp_ix n ps r n1 (ρ))∧post_ix n ps r n1 i ρ
theorem phi_ix_spec (n:Nat) (ps:List Value) (r:Int) (n1:Int) (i:Int) (h:pre_ix n ps r n1 i):LoopTo Try.prog (lb 47 p_ix) (sh_ix n ps r n1 i) (hp_ix n ps r n1 i) (.exit 0) (sh_ix n ps r n1 ((phi_ix n ps r n1 i))) (hp_ix n ps r n1 ((phi_ix n ps r n1 i)))∧post_ix n ps r n1 i (phi_ix n ps r n1 i):=Classical.epsilon_spec (loop_ix n ps r n1 i h)
def cond_ix (n:Nat) (ps:List Value) (r:Int) (n1:Int) (i:Int):Bool:= @decide (pre_ix n ps r n1 i) (Classical.propDecidable _)
theorem cond_ix_eq (n:Nat) (ps:List Value) (r:Int) (n1:Int) (i:Int) (h:pre_ix n ps r n1 i):cond_ix n ps r n1 i=true:= @decide_eq_true _ (Classical.propDecidable _) h
theorem told_ix_ok (T:List AV) (H:Hp) (e:Ex) (T1:List AV) (H1:Hp) (h:told_ix cond_ix phi_ix T H=some (true,e,T1,H1)):V.Ends Try.prog false 0 0 (.loop (lb 47 p_ix)) T H e T1 H1:=by
 unfold told_ix at h
 split at h
 ·rename_i n f_ps r n1 i h0 h1 h4 h7 h8
  rw [Bool.cond_eq_ite] at h
  split at h
  ·rename_i hlen
   rw [beq_iff_eq] at hlen
   simp only [Option.some.injEq,Prod.mk.injEq,Bool.and_eq_true,decide_eq_true_eq] at h
   obtain ⟨⟨k1,k2⟩,rfl,rfl,rfl⟩:=h
   have kc:= @of_decide_eq_true _ (Classical.propDecidable _) k2
   refine Ends.pre (phi_ix_spec n (rowV 6 n f_ps) r n1 i kc).1.ends (fun α B w D ys hr=>slots_rel hlen (fun p hp y hy=> ?_) hr)
   simp only [List.mem_cons,List.not_mem_nil,or_false] at hp
   rcases hp with rfl | rfl | rfl | rfl | rfl
   ·rw [h0] at hy;exact row_normV (by kernel_rfl) k1 hy
   ·rw [h1] at hy;exact hy
   ·rw [h4] at hy;exact hy
   ·rw [h7] at hy;exact hy
   ·rw [h8] at hy;exact hy
  ·cases h
 ·cases h
theorem LL_ix_ok {L:LTab} (h:LOk Try.prog L):LOk Try.prog (LL_ix cond_ix phi_ix L):=h.add2n body_ix told_ix_ok
abbrev p_iy:List Bool:= [false,true,false,true]
def sh_iy (n:Nat) (ps:List Value) (r:Int) (n1:Int) (i:Int):List AV:=slots 19 [(0, .lst false 41 n (vrow 6 ps)),(1, .val (.func (.func 22) (.mk []) (.mk []))),(4, .val (.int .i64 r)),(7, .val (.int .i64 n1)),(8, .val (.int .i64 i))]
def hp_iy (n:Nat) (ps:List Value) (r:Int) (n1:Int) (i:Int):Hp:= []
theorem body_iy:subC Try.prog 47 p_iy=some (.loop (lb 47 p_iy)):=by kernel_rfl
def pre_iy (n:Nat) (ps:List Value) (r n1 i:Int):Prop:=n1=n∧i=0∧n≤9223372036854775807∧(∀ j,j < n→okQ ps j=true)∧∃ m,m < n∧(∀ j,j < m→badP ps j=false)∧badP ps m=true
def post_iy (n:Nat) (ps:List Value) (r n1 i:Int) (ρ:Int×Int):Prop:=0≤ρ.1
theorem iy_go (n:Nat) (ps:List Value) (r:Int) (hn:n≤9223372036854775807) (h:∀ j,j < n→okQ ps j=true) (m:Nat) (hm:m < n) (hg:∀ j,j < m→badP ps j=false) (hb:badP ps m=true) (k:Nat):∀ i,m=i+k→LoopTo Try.prog (lb 47 p_ix) (sh_ix n ps r n (i:Nat)) (hp_ix n ps r n (i:Nat)) .ret (sh_ix n ps (m:Int) n (m:Int)) (hp_ix n ps (m:Int) n (m:Int)):=by
 induction k with
 | zero=>
  intro i hi
  have:i=m:=by omega
  subst this
  exact .last (ix_stop n ps r i hm (h i hm) hb) (by intro h;cases h)
 | succ k ih=>
  intro i hi
  exact .more (ix_step n ps r i (by omega) hn (h i (by omega)) (hg i (by omega))) (ih (i+1) (by omega))
theorem loop_iy (n:Nat) (ps:List Value) (r n1 i:Int) (h:pre_iy n ps r n1 i):∃ ρ:Int×Int,LoopTo Try.prog (lb 47 p_iy) (sh_iy n ps r n1 i) (hp_iy n ps r n1 i) .ret (sh_iy n ps ρ.1 n1 ρ.2) (hp_iy n ps ρ.1 n1 ρ.2)∧post_iy n ps r n1 i ρ:=by
 obtain ⟨rfl,rfl,hn,h,m,hm,hg,hb⟩:=h
 exact ⟨((m:Int),(m:Int)),iy_go n ps r hn h m hm hg hb m 0 (by omega),Int.natCast_nonneg m⟩
def told_iy (κ:Nat→List Value→Int→Int→Int→Bool) (φ:Nat→List Value→Int→Int→Int→Int×Int) (T:List AV) (H:Hp):Option (Bool×Ex×List AV×Hp):=
 match lget T 0,lget T 1,lget T 4,lget T 7,lget T 8,H with
 | .lst false 41 n f_ps, .val (.func (.func 22) (.mk []) (.mk [])), .val (.int .i64 r), .val (.int .i64 n1), .val (.int .i64 i), []=>bif T.length==19 then some (okV 6 n f_ps&&κ n (rowV 6 n f_ps) r n1 i, .ret,sh_iy n (rowV 6 n f_ps) ((φ n (rowV 6 n f_ps) r n1 i).1) n1 ((φ n (rowV 6 n f_ps) r n1 i).2),hp_iy n (rowV 6 n f_ps) ((φ n (rowV 6 n f_ps) r n1 i).1) n1 ((φ n (rowV 6 n f_ps) r n1 i).2)) else none
 | _,_,_,_,_,_=>none
abbrev KT_iy:Type:=Nat→List Value→Int→Int→Int→Bool
abbrev FT_iy:Type:=Nat→List Value→Int→Int→Int→Int×Int
def LL_iy (κ:KT_iy) (φ:FT_iy) (L:LTab):LTab:=addLn 0 47 p_iy [0,1,4,7,8] (told_iy κ φ) L
def phi_iy (n:Nat) (ps:List Value) (r:Int) (n1:Int) (i:Int):Int×Int:=Classical.epsilon fun ρ=>LoopTo Try.prog (lb 47 p_iy) (sh_iy n ps r n1 i) (hp_iy n ps r n1 i) (.ret) (sh_iy n ps (ρ.1) n1 (ρ.2)) (hp_iy n ps (ρ.1) n1 (ρ.2))∧post_iy n ps r n1 i ρ
theorem phi_iy_spec (n:Nat) (ps:List Value) (r:Int) (n1:Int) (i:Int) (h:pre_iy n ps r n1 i):LoopTo Try.prog (lb 47 p_iy) (sh_iy n ps r n1 i) (hp_iy n ps r n1 i) (.ret) (sh_iy n ps ((phi_iy n ps r n1 i).1) n1 ((phi_iy n ps r n1 i).2)) (hp_iy n ps ((phi_iy n ps r n1 i).1) n1 ((phi_iy n ps r n1 i).2))∧post_iy n ps r n1 i (phi_iy n ps r n1 i):=Classical.epsilon_spec (loop_iy n ps r n1 i h)
def cond_iy (n:Nat) (ps:List Value) (r:Int) (n1:Int) (i:Int):Bool:= @decide (pre_iy n ps r n1 i) (Classical.propDecidable _)
theorem cond_iy_eq (n:Nat) (ps:List Value) (r:Int) (n1:Int) (i:Int) (h:pre_iy n ps r n1 i):cond_iy n ps r n1 i=true:= @decide_eq_true _ (Classical.propDecidable _) h
theorem told_iy_ok (T:List AV) (H:Hp) (e:Ex) (T1:List AV) (H1:Hp) (h:told_iy cond_iy phi_iy T H=some (true,e,T1,H1)):V.Ends Try.prog false 0 0 (.loop (lb 47 p_iy)) T H e T1 H1:=by
 unfold told_iy at h
 split at h
 ·rename_i n f_ps r n1 i h0 h1 h4 h7 h8
  rw [Bool.cond_eq_ite] at h
  split at h
  ·rename_i hlen
   rw [beq_iff_eq] at hlen
   simp only [Option.some.injEq,Prod.mk.injEq,Bool.and_eq_true,decide_eq_true_eq] at h
   obtain ⟨⟨k1,k2⟩,rfl,rfl,rfl⟩:=h
   have kc:= @of_decide_eq_true _ (Classical.propDecidable _) k2
   refine Ends.pre (phi_iy_spec n (rowV 6 n f_ps) r n1 i kc).1.ends (fun α B w D ys hr=>slots_rel hlen (fun p hp y hy=> ?_) hr)
   simp only [List.mem_cons,List.not_mem_nil,or_false] at hp
   rcases hp with rfl | rfl | rfl | rfl | rfl
   ·rw [h0] at hy;exact row_normV (by kernel_rfl) k1 hy
   ·rw [h1] at hy;exact hy
   ·rw [h4] at hy;exact hy
   ·rw [h7] at hy;exact hy
   ·rw [h8] at hy;exact hy
  ·cases h
 ·cases h
theorem LL_iy_ok {L:LTab} (h:LOk Try.prog L):LOk Try.prog (LL_iy cond_iy phi_iy L):=h.add2n body_iy told_iy_ok
structure Ug where
 okq:Nat→List Value→Bool
 bad:Nat→List Value→Bool
def okqN (n:Nat) (ps:List Value):Bool:=decide (n≤9223372036854775807)&&(List.range n).all (okQ ps)
def badN (n:Nat) (ps:List Value):Bool:=(List.range n).any (badP ps)
def ug0:Ug where
 okq:=okqN
 bad:=badN
theorem okqN_out {n:Nat} {ps:List Value} (h:ug0.okq n ps=true):n≤9223372036854775807∧∀ j,j < n→okQ ps j=true:=by
 have h:(decide _&&(List.range n).all (okQ ps))=true:=h
 rw [Bool.and_eq_true,decide_eq_true_eq] at h
 exact ⟨h.1,fun j hj=>all_lt h.2 hj⟩
def tCont (U:Ug):TF:=fun args=>match args with
 | [.lst _ 41 n f, .val (.func (.func 22) (.mk []) (.mk []))]=>some (okV 6 n f&&U.okq n (rowV 6 n f), .val (.bool (U.bad n (rowV 6 n f))))
 | _=>none
theorem ix_call (κ:KT_ix) (φ:FT_ix) (n:Nat) (ps:List Value):callA Try.prog ⟨noC,Kall,LL_ix κ φ noL⟩ 10 10 21 [.lst false 41 n (vrow 6 ps), .val (.func (.func 22) (.mk []) (.mk []))]=
  (bif okV (6:Nat) n (vrow (6:Nat) ps)&&κ n (rowV (6:Nat) n (vrow (6:Nat) ps)) (0:Int) (↑n:Int) (0:Int) then some (.val (.bool false)) else none):=by kernel_rfl
theorem iy_call (κ:KT_iy) (φ:FT_iy) (n:Nat) (ps:List Value):callA Try.prog ⟨noC,Kall,LL_iy κ φ noL⟩ 10 10 21 [.lst false 41 n (vrow 6 ps), .val (.func (.func 22) (.mk []) (.mk []))]=
  (bif okV (6:Nat) n (vrow (6:Nat) ps)&&κ n (rowV (6:Nat) n (vrow (6:Nat) ps)) (0:Int) (↑n:Int) (0:Int) then some (.val (.bool (decide ((0:Int)≤(φ n (rowV (6:Nat) n (vrow (6:Nat) ps)) (0:Int) (↑n:Int) (0:Int)).fst)))) else none):=by kernel_rfl
theorem eCont:Entry Try.prog 21 (tCont ug0):=by
 refine entry_at (by kernel_rfl) (fun args r h=> ?_)
 unfold tCont at h
 split at h
 ·rename_i fl n f
  simp only [Option.some.injEq,Prod.mk.injEq,Bool.and_eq_true] at h
  obtain ⟨⟨h1,h2⟩,rfl⟩:=h
  have hI:ImpL [.lst fl 41 n f, .val (.func (.func 22) (.mk []) (.mk []))] [.lst false 41 n (vrow 6 (rowV 6 n f)), .val (.func (.func 22) (.mk []) (.mk []))]:=ImpL.cons (Imp.row (by kernel_rfl) h1) (ImpL.refl _)
  have hl:=rowV_len 6 n f
  generalize rowV 6 n f=ps at*
  obtain ⟨hn,hp⟩:=okqN_out h2
  by_cases hg:(List.range n).any (badP ps)=true
  ·have hq:pre_iy n ps 0 n 0:= ⟨rfl,rfl,hn,hp,first_of n hg⟩
   refine ⟨⟨noC,Kall,LL_iy cond_iy phi_iy noL⟩,10,10,_,_,meets_none _,(LL_iy_ok LOk.none).ok, ?_,hI,Imp.refl _⟩
   have e:ug0.bad n ps=true:=hg
   have e2:0≤(phi_iy n ps 0 n 0).fst:=(phi_iy_spec _ _ _ _ _ hq).2
   rw [iy_call,okV_vrow,rowV_vrow hl,cond_iy_eq _ _ _ _ _ hq,e,dT e2];rfl
  ·have hq:pre_ix n ps 0 n 0:= ⟨rfl,rfl,hn,fun j hj=> ⟨hp j hj,none_lt hg hj⟩⟩
   refine ⟨⟨noC,Kall,LL_ix cond_ix phi_ix noL⟩,10,10,_,_,meets_none _,(LL_ix_ok LOk.none).ok, ?_,hI,Imp.refl _⟩
   have e:ug0.bad n ps=false:=Bool.eq_false_iff.2 hg
   rw [ix_call,okV_vrow,rowV_vrow hl,cond_ix_eq _ _ _ _ _ hq,e];rfl
 ·cases h
end
end Go.Proofs.Ytdnmkehncpfnnaa.L
namespace Go.Proofs.Ytdnmkehncpfnnaa.L
open Go Go.V Go.RowKit Go.Proofs.Ytdnmkehncpfnnaa.Sp
open Go.Proofs (Try.prog)
noncomputable section
theorem asB_bool (b:Bool):asB (.bool b)=b:=rfl
theorem asS_str (s:BA):asS (.string s)=s:=rfl
theorem isRat_mk (b:Bool) (n d:BA):isRat (.bool b) (.string n) (.string d)=true:=rfl
theorem sq_nn (x:Rat):0≤x*x:=by
 rcases (Rat.le_total:0≤x∨x≤0) with h | h
 ·exact mul_nn h h
 ·have h2:0≤ -x:=by grind
  have:=mul_nn h2 h2
  rwa [Rat.neg_mul,Rat.mul_neg,Rat.neg_neg] at this
def rcells (q:Rat):List Value:= [.bool (sq0.qn q), .string (sq0.qs q), .string (sq0.qd q)]
def cells3 (n:Nat) (q:Nat→Rat):List Value:=(List.range n).flatMap fun i=>rcells (q i)
theorem cells3_succ (n:Nat) (q:Nat→Rat):cells3 (n+1) q=cells3 n q ++ rcells (q n):=by
 unfold cells3
 rw [List.range_succ,List.flatMap_append]
 simp
theorem cells3_len (n:Nat) (q:Nat→Rat):(cells3 n q).length=n*3:=by
 induction n with
 | zero=>rfl
 | succ n ih=>rw [cells3_succ,List.length_append,ih];show n*3+3=_;omega
theorem cells3_at (n:Nat) (q:Nat→Rat) {j k:Nat} (hj:j < n) (hk:k < 3):(cells3 n q).getD (j*3+k) undef=(rcells (q j)).getD k undef:=by
 induction n with
 | zero=>omega
 | succ n ih=>
  rw [cells3_succ,List.getD_eq_getElem?_getD]
  by_cases h:j < n
  ·rw [List.getElem?_append_left (by rw [cells3_len];omega),← List.getD_eq_getElem?_getD]
   exact ih h
  ·have:j=n:=by omega
   subst this
   rw [List.getElem?_append_right (by rw [cells3_len];omega),cells3_len,Nat.add_sub_cancel_left,← List.getD_eq_getElem?_getD]
theorem cells3_b (n:Nat) (q:Nat→Rat) {j:Nat} (hj:j < n):(cells3 n q).getD (j*3+0) undef= .bool (sq0.qn (q j)):=cells3_at n q hj (by decide)
theorem cells3_n (n:Nat) (q:Nat→Rat) {j:Nat} (hj:j < n):(cells3 n q).getD (j*3+1) undef= .string (sq0.qs (q j)):=cells3_at n q hj (by decide)
theorem cells3_d (n:Nat) (q:Nat→Rat) {j:Nat} (hj:j < n):(cells3 n q).getD (j*3+2) undef= .string (sq0.qd (q j)):=cells3_at n q hj (by decide)
theorem cells3_one (q:Nat→Rat) (h:q 0=0):cells3 1 q= [.bool false, .string (ByteArray.mk #[]), .string (ByteArray.mk #[])]:=by
 rw [cells3_succ,h]
 show [] ++ rcells 0=_
 unfold rcells
 rw [qn_zero,qs_zero,qd_zero];rfl
def qat (vs:List Value) (o:Nat):Rat:=sq0.qv (asB (vs.getD (o+0) undef)) (asS (vs.getD (o+1) undef)) (asS (vs.getD (o+2) undef))
theorem qat_cells3 (n:Nat) (q:Nat→Rat) {j:Nat} (hj:j < n):qat (cells3 n q) (j*3)=q j:=by
 unfold qat
 rw [cells3_b n q hj,cells3_n n q hj,cells3_d n q hj]
 exact qv_rat _
def px (ps:List Value) (j:Nat):Rat:=qat ps (j*6)
def py (ps:List Value) (j:Nat):Rat:=sq0.qv (asB (ps.getD (j*6+3) undef)) (asS (ps.getD (j*6+4) undef)) (asS (ps.getD (j*6+5) undef))
def dsP (ps:List Value) (i j:Nat):Rat:=hg0.ds (px ps i) (py ps i) (px ps j) (py ps j)
def tmR (ps:List Value) (s:Rat) (g:Int):Nat→Rat
 | 0=>0
 | i+1=>tmR ps s g i+sq0.fr (hg0.st (dsP ps i (i+1)) s g) g
theorem st_sz {x s:Rat} {g:Int} (hx:szq x≤200) (hs:szq s≤200) (hg:1≤g∧g≤1000) (hp:hg0.pos x s=true):bs (hg0.st x s g).natAbs≤608:=by
 obtain ⟨_,_,_,_,h5,h6⟩:=steps_sz hx hs hg hp
 rw [st_eq]
 generalize (x*((g:Rat)*(g:Rat)) / (s*s)).ceil=q at*
 have r1:=bs_mono (root_le q.natAbs)
 have k1:=bs_add (rootN q.natAbs) 1
 have k2:=bs1
 have k3:bs 1≤1:=bs1
 have hu:bs (upN q.natAbs)≤608:=by
  unfold upN
  split <;> omega
 rcases Int.le_total 1 ((upN q.natAbs:Nat):Int) with h | h
 ·rw [Int.max_eq_right h,Int.natAbs_natCast];exact hu
 ·rw [Int.max_eq_left h];exact Nat.le_trans k3 (by omega)
theorem fr_sz {x s:Rat} {g:Int} (hx:szq x≤200) (hs:szq s≤200) (hg:1≤g∧g≤1000) (hp:hg0.pos x s=true):szq (sq0.fr (hg0.st x s g) g)≤608:=by
 have h1:=szq_fr (hg0.st x s g) (y:=g) (by omega)
 have h2:=st_sz hx hs hg hp
 have h3:bs g.natAbs≤2:=bs_le (by have:(256:Nat) ^ 2=65536:=rfl;omega)
 have h4:szq (sq0.fr (hg0.st x s g) g)=szq (Rat.divInt (hg0.st x s g) g):=rfl
 omega
end
end Go.Proofs.Ytdnmkehncpfnnaa.L
namespace Go.Proofs.Ytdnmkehncpfnnaa.L
open Go Go.V Go.RowKit Go.Proofs.Ytdnmkehncpfnnaa.Sp
open Go.Proofs (Try.prog)
noncomputable section
def EMk (S:Sg) (K:Hg) (X:Xg) (Z:Qg):Env:= ⟨addC 16 (gPP (tVDist K Z)) (addC 27 (gRR (tSteps S K Z)) (addC 28 (tOf S) (addC 26 (tQNew S X Z) (addC 29 (gRR (tQAdd Z)) noC)))),Kall,noL⟩
abbrev p_mk:List Bool:= [false,true,false,true,true,true]
def sh_mk (n:Nat) (ps:List Value) (g:Int) (i:Int) (sb:Bool) (sn:ByteArray) (sd:ByteArray) (m:Nat) (pn:Nat) (ts:List Value) (cs:List Value):List AV:=slots 88 [(0, .lst false 41 n (vrow 6 ps)),(2, .val (.int .i64 g)),(4, .ptr 0 0),(6, .ptr 1 0),(8, .ptr 2 0),(9, .val (.int .i64 i))]
def hp_mk (n:Nat) (ps:List Value) (g:Int) (i:Int) (sb:Bool) (sn:ByteArray) (sd:ByteArray) (m:Nat) (pn:Nat) (ts:List Value) (cs:List Value):Hp:= [.row (.cells [.val (.bool sb), .val (.string sn), .val (.string sd)]) 24 .live, .row (.cells [.val (.slice none 0 0),.val (.slice none 0 0)]) 30 .live, .row (.cells [.sl false 24 3 0 m,.sl false 41 4 0 pn]) 30 .live, .row (.vals ts) 24 .live, .row (.vals cs) 41 .live]
theorem body_mk:subC Try.prog 7 p_mk=some (.loop (lb 7 p_mk)):=by kernel_rfl
theorem code_mk:subC Try.prog 7 (false :: p_mk)=some (lb 7 p_mk):=by kernel_rfl
theorem round_mk (S:Sg) (K:Hg) (X:Xg) (Z:Qg) (n:Nat) (ps:List Value) (g:Int) (i:Int) (sb:Bool) (sn:ByteArray) (sd:ByteArray) (m:Nat) (pn:Nat) (ts:List Value) (cs:List Value):letI q_7:=(ps.getD ((i - (1:Int)).toNat*(6:Nat)+(1:Nat)) undef);letI q_8:=(ps.getD ((i - (1:Int)).toNat*(6:Nat)+(2:Nat)) undef);letI q_9:=(ps.getD ((i - (1:Int)).toNat*(6:Nat)+(4:Nat)) undef);letI q_10:=(ps.getD ((i - (1:Int)).toNat*(6:Nat)+(5:Nat)) undef);letI q_11:=(ps.getD (i.toNat*(6:Nat)+(1:Nat)) undef);letI q_12:=(ps.getD (i.toNat*(6:Nat)+(2:Nat)) undef);letI q_13:=(ps.getD (i.toNat*(6:Nat)+(4:Nat)) undef);letI q_14:=(ps.getD (i.toNat*(6:Nat)+(5:Nat)) undef);letI q_1:=(K.ds (Z.qv (asB (ps.getD ((i - (1:Int)).toNat*(6:Nat)+(0:Nat)) undef)) (asS q_7) (asS q_8)) (Z.qv (asB (ps.getD ((i - (1:Int)).toNat*(6:Nat)+(3:Nat)) undef)) (asS q_9) (asS q_10)) (Z.qv (asB (ps.getD (i.toNat*(6:Nat)+(0:Nat)) undef)) (asS q_11) (asS q_12)) (Z.qv (asB (ps.getD (i.toNat*(6:Nat)+(3:Nat)) undef)) (asS q_13) (asS q_14)));letI q_6:=(K.st (Z.qv (Z.qn q_1) (Z.qs q_1) (Z.qd q_1)) (Z.qv sb sn sd) g);letI q_2:=(Z.fr (S.val (S.ng q_6) (S.ms q_6)) (S.val (S.ng g) (S.ms g)));letI q_5:=(ts.getD ((0:Nat)+(i - (1:Int)).toNat*(3:Nat)+(1:Nat)) undef);letI q_4:=(ts.getD ((0:Nat)+(i - (1:Int)).toNat*(3:Nat)+(1:Nat)+(1:Nat)) undef);letI q_3:=(Z.qv (asB (ts.getD ((0:Nat)+(i - (1:Int)).toNat*(3:Nat)) undef)) (asS q_5) (asS q_4)+Z.qv (Z.qn q_2) (Z.qs q_2) (Z.qd q_2));
  (roundA Try.prog (EMk S K X Z) 7 [0,2,4,6,8,9] (lb 7 p_mk) (false :: p_mk) (sh_mk n ps g i sb sn sd m pn ts cs) (hp_mk n ps g i sb sn sd m pn ts cs)=(bif decide (i < (↑n:Int)) then (bif inR IntKind.i64 (i - (1:Int)) then (bif decide ((0:Int)≤i - (1:Int))&&decide (i - (1:Int) < (↑n:Int)) then (bif decide ((0:Int)≤i)&&decide (i < (↑n:Int)) then (bif isRat (ps.getD ((i - (1:Int)).toNat*(6:Nat)+(0:Nat)) undef) q_7 q_8&&isRat (ps.getD ((i - (1:Int)).toNat*(6:Nat)+(3:Nat)) undef) q_9 q_10&&(isRat (ps.getD (i.toNat*(6:Nat)+(0:Nat)) undef) q_11 q_12&&isRat (ps.getD (i.toNat*(6:Nat)+(3:Nat)) undef) q_13 q_14)&&(K.ok (asS q_7) (asS q_8)&&K.ok (asS q_9) (asS q_10)&&K.ok (asS q_11) (asS q_12)&&K.ok (asS q_13) (asS q_14)) then (bif K.okn (Z.qs q_1) (Z.qd q_1)&&K.okn sn sd&&K.pos (Z.qv (Z.qn q_1) (Z.qs q_1) (Z.qd q_1)) (Z.qv sb sn sd)&&decide ((1:Int)≤g)&&decide (g≤(1000:Int)) then (bif inI g then (bif S.ok (S.ms q_6)&&S.ok (S.ms g) then (bif inR IntKind.i64 (i - (1:Int)) then (bif decide ((0:Int)≤i - (1:Int))&&decide (i - (1:Int) < (↑m:Int)) then (bif decide ((0:Nat)+(i - (1:Int)).toNat*(3:Nat) < ts.length) then (bif decide ((0:Nat)+(i - (1:Int)).toNat*(3:Nat)+(1:Nat) < ts.length) then (bif decide ((0:Nat)+(i - (1:Int)).toNat*(3:Nat)+(1:Nat)+(1:Nat) < ts.length) then (bif isRat (ts.getD ((0:Nat)+(i - (1:Int)).toNat*(3:Nat)) undef) q_5 q_4&&true&&(Z.ok (asS q_5) (asS q_4)&&Z.ok (Z.qs q_2) (Z.qd q_2)) then (bif decide (m*(3:Nat)≤(Cont.vals ts).len)&&roomA Try.prog (m+(1:Nat)) (24:Nat)&&true then (bif inR IntKind.i64 (i+(1:Int)) then some (.normal,slots 88 [(0,(.lst false 41 n (vrow (6:Nat) ps))),(2,(.val (.int .i64 g))),(4,(.ptr 0 0)),(6,(.ptr 1 0)),(8,(.ptr 2 0)),(9,(.val (.int .i64 (i+(1:Int)))))], [(.row (.cells [(.val (.bool sb)),(.val (.string sn)),(.val (.string sd))]) 24 .live),(.row (.cells [(.val (.slice .none 0 0)),(.val (.slice .none 0 0))]) 30 .live),(.row (.cells [(.sl false 24 3 0 (m+(1:Nat))),(.sl false 41 4 0 pn)]) 30 .live),(.row (.vals ((List.take (m*(3:Nat)) ts) ++ ([(.bool (Z.qn q_3)),(.string (Z.qs q_3)),(.string (Z.qd q_3))]:List Value))) 24 .live),(.row (.vals cs) 41 .live)]) else none) else none) else none) else none) else none) else none) else none) else none) else none) else none) else none) else none) else none) else none) else none) else some ((.exit 1),slots 88 [(0,(.lst false 41 n (vrow (6:Nat) ps))),(2,(.val (.int .i64 g))),(4,(.ptr 0 0)),(6,(.ptr 1 0)),(8,(.ptr 2 0)),(9,(.val (.int .i64 i)))], [(.row (.cells [(.val (.bool sb)),(.val (.string sn)),(.val (.string sd))]) 24 .live),(.row (.cells [(.val (.slice .none 0 0)),(.val (.slice .none 0 0))]) 30 .live),(.row (.cells [(.sl false 24 3 0 m),(.sl false 41 4 0 pn)]) 30 .live),(.row (.vals ts) 24 .live),(.row (.vals cs) 41 .live)]))):=by kernel_rfl
theorem step_mk {n:Nat} {ps:List Value} {g:Int} {i:Int} {sb:Bool} {sn:ByteArray} {sd:ByteArray} {m:Nat} {pn:Nat} {ts:List Value} {cs:List Value} {e:Ex} {T:List AV} {H:Hp} (h:roundA Try.prog (EMk sg0 hg0 xg0 sq0) 7 [0,2,4,6,8,9] (lb 7 p_mk) (false :: p_mk) (sh_mk n ps g i sb sn sd m pn ts cs) (hp_mk n ps g i sb sn sd m pn ts cs)=some (e,T,H)):V.Ends Try.prog false 0 0 (lb 7 p_mk) (sh_mk n ps g i sb sn sd m pn ts cs) (hp_mk n ps g i sb sn sd m pn ts cs) e T H:=
 round_ends ((((((meets_none _).add eQAdd.gRR).add eQNew).add eOf).add eSteps.gRR).add eVDist.gPP) loops_none mixed code_mk h
theorem cells3_b' (n:Nat) (q:Nat→Rat) {j:Nat} (hj:j < n):(cells3 n q).getD (j*3) undef= .bool (sq0.qn (q j)):=cells3_b n q hj
theorem cells3_d' (n:Nat) (q:Nat→Rat) {j:Nat} (hj:j < n):(cells3 n q).getD (j*3+1+1) undef= .string (sq0.qd (q j)):=cells3_d n q hj
theorem dsP_eq (ps:List Value) (i j:Nat):hg0.ds (sq0.qv (asB (ps.getD (i*6+0) undef)) (asS (ps.getD (i*6+1) undef)) (asS (ps.getD (i*6+2) undef))) (sq0.qv (asB (ps.getD (i*6+3) undef)) (asS (ps.getD (i*6+4) undef)) (asS (ps.getD (i*6+5) undef)))
  (sq0.qv (asB (ps.getD (j*6+0) undef)) (asS (ps.getD (j*6+1) undef)) (asS (ps.getD (j*6+2) undef))) (sq0.qv (asB (ps.getD (j*6+3) undef)) (asS (ps.getD (j*6+4) undef)) (asS (ps.getD (j*6+5) undef)))=dsP ps i j:=rfl
theorem okQ_sz {ps:List Value} {j:Nat} (h:okQ ps j=true):szq (px ps j)≤12∧szq (py ps j)≤12:=by
 obtain ⟨_,h3,h4⟩:=okQ_out h
 exact ⟨ok12_sz h3,ok12_sz h4⟩
theorem dsP_sz {ps:List Value} {i j:Nat} (hi:okQ ps i=true) (hj:okQ ps j=true):szq (dsP ps i j)≤101:=by
 obtain ⟨h1,h2⟩:=okQ_sz hi
 obtain ⟨h3,h4⟩:=okQ_sz hj
 exact (ds_size h1 h2 h3 h4).2.2.2.2
theorem okn_rat {q:Rat} (h:szq q≤200):hg0.okn (sq0.qs q) (sq0.qd q)=true:=by
 unfold szq at h
 have h1:=size_qs q
 have h2:=size_qd q
 show (decide _&&decide _)=true
 rw [decide_eq_true (show (sq0.qs q).size≤200 by omega),decide_eq_true (show (sq0.qd q).size≤200 by omega)];rfl
theorem okn_12 {n d:BA} (h:hg0.ok n d=true):hg0.okn n d=true:=by
 obtain ⟨h1,h2⟩:=ok12_out h
 show (decide _&&decide _)=true
 rw [decide_eq_true (show n.size≤200 by omega),decide_eq_true (show d.size≤200 by omega)];rfl
theorem dsP_pos (ps:List Value) (i j:Nat) {s:Rat} (hs:0 < s):hg0.pos (dsP ps i j) s=true:=by
 show (decide (0≤dsP ps i j)&&decide (0 < s))=true
 rw [decide_eq_true hs,decide_eq_true (show 0≤dsP ps i j from Rat.add_nonneg (sq_nn _) (sq_nn _))];rfl
structure MkOk (n:Nat) (ps:List Value) (sb:Bool) (sn sd:BA) (g:Int):Prop where
 n10:n≤10
 pts:∀ j,j < n→okQ ps j=true
 ok:hg0.ok sn sd=true
 pos:0 < sq0.qv sb sn sd
 g:1≤g∧g≤1000
section
variable {n : Nat} {ps : List Value} {sb : Bool} {sn sd : BA} {g : Int}
theorem MkOk.dur (h:MkOk n ps sb sn sd g) {j:Nat} (hj:j+1 < n):szq (dsP ps j (j+1))≤200∧hg0.pos (dsP ps j (j+1)) (sq0.qv sb sn sd)=true∧bs (hg0.st (dsP ps j (j+1)) (sq0.qv sb sn sd) g).natAbs≤608∧szq (sq0.fr (hg0.st (dsP ps j (j+1)) (sq0.qv sb sn sd) g) g)≤608:=by
 have h1:=dsP_sz (h.pts j (by omega)) (h.pts (j+1) hj)
 have h2:=dsP_pos ps j (j+1) h.pos
 have h3:=ok12_sz (b:=sb) h.ok
 exact ⟨by omega,h2,st_sz (by omega) (by omega) h.g h2,fr_sz (by omega) (by omega) h.g h2⟩
theorem MkOk.tm (h:MkOk n ps sb sn sd g):∀ j,j < n→szq (tmR ps (sq0.qv sb sn sd) g j)≤1+j*609
 | 0,_=>szq_zero
 | j+1,hj=>by
  have h1:=MkOk.tm h j (by omega)
  have h2:=(h.dur hj).2.2.2
  have h3:=szq_add (tmR ps (sq0.qv sb sn sd) g j) (sq0.fr (hg0.st (dsP ps j (j+1)) (sq0.qv sb sn sd) g) g)
  have h4:szq (tmR ps (sq0.qv sb sn sd) g (j+1))=szq (tmR ps (sq0.qv sb sn sd) g j+sq0.fr (hg0.st (dsP ps j (j+1)) (sq0.qv sb sn sd) g) g):=rfl
  omega
theorem room_rat {m:Nat} (h:m≤2000):roomA Try.prog m 24=true:=by
 have e:Try.prog.bytesOf 24=40:=by kernel_rfl
 unfold roomA
 rw [e,decide_eq_true (show m*40≤140737488355328 by omega),decide_eq_true (show m≤9223372036854775807 by omega)];rfl
theorem mk_step (h:MkOk n ps sb sn sd g) (pn:Nat) (cs:List Value) (j:Nat) (hj:j+1 < n):V.Ends Try.prog false 0 0 (lb 7 p_mk) (sh_mk n ps g ((j+1:Nat):Int) sb sn sd (j+1) pn (cells3 (j+1) (tmR ps (sq0.qv sb sn sd) g)) cs) (hp_mk n ps g ((j+1:Nat):Int) sb sn sd (j+1) pn (cells3 (j+1) (tmR ps (sq0.qv sb sn sd) g)) cs) .normal (sh_mk n ps g ((j+1+1:Nat):Int) sb sn sd (j+1+1) pn (cells3 (j+1+1) (tmR ps (sq0.qv sb sn sd) g)) cs) (hp_mk n ps g ((j+1+1:Nat):Int) sb sn sd (j+1+1) pn (cells3 (j+1+1) (tmR ps (sq0.qv sb sn sd) g)) cs):=by
 have hr:=round_mk sg0 hg0 xg0 sq0 n ps g ((j+1:Nat):Int) sb sn sd (j+1) pn (cells3 (j+1) (tmR ps (sq0.qv sb sn sd) g)) cs
 have e1:((j+1:Nat):Int) - 1=(j:Int):=by omega
 obtain ⟨⟨k1,k2⟩,k3,k4⟩:=okQ_out (h.pts j (by omega))
 obtain ⟨⟨l1,l2⟩,l3,l4⟩:=okQ_out (h.pts (j+1) hj)
 obtain ⟨d1,d2,d3,d4⟩:=h.dur hj
 have t1:=h.tm j (by omega)
 have t2:tmR ps (sq0.qv sb sn sd) g (j+1)=tmR ps (sq0.qv sb sn sd) g j+sq0.fr (hg0.st (dsP ps j (j+1)) (sq0.qv sb sn sd) g) g:=rfl
 have n10:=h.n10
 have g1:=h.g
 have b1:=cells3_b' (j+1) (tmR ps (sq0.qv sb sn sd) g) (show j < j+1 by omega)
 have b2:=cells3_n (j+1) (tmR ps (sq0.qv sb sn sd) g) (show j < j+1 by omega)
 have b3:=cells3_d' (j+1) (tmR ps (sq0.qv sb sn sd) g) (show j < j+1 by omega)
 have b4:=cells3_len (j+1) (tmR ps (sq0.qv sb sn sd) g)
 have g3:bs g.natAbs≤2:=bs_le (by have:(256:Nat) ^ 2=65536:=rfl;omega)
 simp only [e1,Int.toNat_natCast,Nat.zero_add,dsP_eq,qv_rat,val_ms,b1,b2,b3,b4,asB_bool,asS_str,isRat_mk] at hr
 rw [dT (show ((j+1:Nat):Int) < (n:Int) by omega),i64T (z:=(j:Int)) (by omega),dT (show (0:Int)≤(j:Int) by omega),dT (show (j:Int) < (n:Int) by omega),dT (show (0:Int)≤((j+1:Nat):Int) by omega),k1,k2,k3,k4,l1,l2,l3,l4,
  okn_rat d1,okn_12 h.ok,d2,dT g1.1,dT g1.2,inI_in' g1,okz (z:=hg0.st (dsP ps j (j+1)) (sq0.qv sb sn sd) g) (by omega),okz (z:=g) (by omega),dT (show (j:Int) < ((j+1:Nat):Int) by omega),
  dT (show j*3 < (j+1)*3 by omega),dT (show j*3+1 < (j+1)*3 by omega),dT (show j*3+1+1 < (j+1)*3 by omega),room_rat (show j+1+1≤2000 by omega),i64T (z:=((j+1:Nat):Int)+1) (by omega),
  dT (show (j+1)*3≤(Cont.vals (cells3 (j+1) (tmR ps (sq0.qv sb sn sd) g))).len from Nat.le_of_eq b4.symm)] at hr
 rw [ok_rat (q:=tmR ps (sq0.qv sb sn sd) g j) (by omega),ok_rat (q:=sq0.fr (hg0.st (dsP ps j (j+1)) (sq0.qv sb sn sd) g) g) (by omega),List.take_of_length_le (Nat.le_of_eq b4),← t2] at hr
 rw [cells3_succ (j+1)]
 exact step_mk hr
theorem mk_go (h:MkOk n ps sb sn sd g) (pn:Nat) (cs:List Value) (k:Nat):∀ j,n=j+1+k→LoopTo Try.prog (lb 7 p_mk) (sh_mk n ps g ((j+1:Nat):Int) sb sn sd (j+1) pn (cells3 (j+1) (tmR ps (sq0.qv sb sn sd) g)) cs) (hp_mk n ps g ((j+1:Nat):Int) sb sn sd (j+1) pn (cells3 (j+1) (tmR ps (sq0.qv sb sn sd) g)) cs) (.exit 1) (sh_mk n ps g (n:Int) sb sn sd n pn (cells3 n (tmR ps (sq0.qv sb sn sd) g)) cs) (hp_mk n ps g (n:Int) sb sn sd n pn (cells3 n (tmR ps (sq0.qv sb sn sd) g)) cs):=by
 induction k with
 | zero=>
  intro j hj
  have:n=j+1:=by omega
  subst this
  refine .last (step_mk ?_) (by intro h;cases h)
  rw [round_mk,dF (show ¬ ((j+1:Nat):Int) < ((j+1:Nat):Int) by omega)]
  rfl
 | succ k ih=>
  intro j hj
  exact .more (mk_step h pn cs j (by omega)) (ih (j+1) (by omega))
end
def pre_mk (n:Nat) (ps:List Value) (g i:Int) (sb:Bool) (sn sd:BA) (m pn:Nat) (ts cs:List Value):Prop:=MkOk n ps sb sn sd g∧1≤n∧i=1∧m=1∧ts=cells3 1 (tmR ps (sq0.qv sb sn sd) g)
def post_mk (n:Nat) (ps:List Value) (g i:Int) (sb:Bool) (sn sd:BA) (m pn:Nat) (ts cs:List Value) (ρ:Int×Nat×List Value):Prop:=ρ.2=(n,cells3 n (tmR ps (sq0.qv sb sn sd) g))
theorem loop_mk (n:Nat) (ps:List Value) (g i:Int) (sb:Bool) (sn sd:BA) (m pn:Nat) (ts cs:List Value) (h:pre_mk n ps g i sb sn sd m pn ts cs):∃ ρ:Int×Nat×List Value,LoopTo Try.prog (lb 7 p_mk) (sh_mk n ps g i sb sn sd m pn ts cs) (hp_mk n ps g i sb sn sd m pn ts cs) (.exit 1) (sh_mk n ps g ρ.1 sb sn sd ρ.2.1 pn ρ.2.2 cs) (hp_mk n ps g ρ.1 sb sn sd ρ.2.1 pn ρ.2.2 cs)∧post_mk n ps g i sb sn sd m pn ts cs ρ:=by
 obtain ⟨hk,hn,rfl,rfl,rfl⟩:=h
 exact ⟨((n:Int),n,cells3 n (tmR ps (sq0.qv sb sn sd) g)),mk_go hk pn cs (n - 1) 0 (by omega),rfl⟩
def told_mk (κ:Nat→List Value→Int→Int→Bool→ByteArray→ByteArray→Nat→Nat→List Value→List Value→Bool) (φ:Nat→List Value→Int→Int→Bool→ByteArray→ByteArray→Nat→Nat→List Value→List Value→Int×Nat×List Value) (T:List AV) (H:Hp):Option (Bool×Ex×List AV×Hp):=
 match lget T 0,lget T 2,lget T 4,lget T 6,lget T 8,lget T 9,H with
 | .lst false 41 n f_ps, .val (.int .i64 g), .ptr 0 0, .ptr 1 0, .ptr 2 0, .val (.int .i64 i), [.row (.cells [.val (.bool sb), .val (.string sn), .val (.string sd)]) 24 .live, .row (.cells [.val (.slice none 0 0),.val (.slice none 0 0)]) 30 .live, .row (.cells [.sl fa2_1 24 3 0 m,.sl fa2_2 41 4 0 pn]) 30 .live, .row (.cells l_ts) 24 .live, .row (.vals cs) 41 .live]=>bif T.length==88 then some (okV 6 n f_ps&&l_ts.all isVal&&κ n (rowV 6 n f_ps) g i sb sn sd m pn (l_ts.map unVal) cs, .exit 1,sh_mk n (rowV 6 n f_ps) g ((φ n (rowV 6 n f_ps) g i sb sn sd m pn (l_ts.map unVal) cs).1) sb sn sd ((φ n (rowV 6 n f_ps) g i sb sn sd m pn (l_ts.map unVal) cs).2.1) pn ((φ n (rowV 6 n f_ps) g i sb sn sd m pn (l_ts.map unVal) cs).2.2) cs,hp_mk n (rowV 6 n f_ps) g ((φ n (rowV 6 n f_ps) g i sb sn sd m pn (l_ts.map unVal) cs).1) sb sn sd ((φ n (rowV 6 n f_ps) g i sb sn sd m pn (l_ts.map unVal) cs).2.1) pn ((φ n (rowV 6 n f_ps) g i sb sn sd m pn (l_ts.map unVal) cs).2.2) cs) else none
 | _,_,_,_,_,_,_=>none
abbrev KT_mk:Type:=Nat→List Value→Int→Int→Bool→ByteArray→ByteArray→Nat→Nat→List Value→List Value→Bool
abbrev FT_mk:Type:=Nat→List Value→Int→Int→Bool→ByteArray→ByteArray→Nat→Nat→List Value→List Value→Int×Nat×List Value
def LL_mk (κ:KT_mk) (φ:FT_mk) (L:LTab):LTab:=addLn 0 7 p_mk [0,2,4,6,8,9] (told_mk κ φ) L
def phi_mk (n:Nat) (ps:List Value) (g:Int) (i:Int) (sb:Bool) (sn:ByteArray) (sd:ByteArray) (m:Nat) (pn:Nat) (ts:List Value) (cs:List Value):Int×Nat×List Value:=Classical.epsilon fun ρ=>LoopTo Try.prog (lb 7 p_mk) (sh_mk n ps g i sb sn sd m pn ts cs) (hp_mk n ps g i sb sn sd m pn ts cs) (.exit 1) (sh_mk n ps g (ρ.1) sb sn sd (ρ.2.1) pn (ρ.2.2) cs) (hp_mk n ps g (ρ.1) sb sn sd (ρ.2.1) pn (ρ.2.2) cs)∧post_mk n ps g i sb sn sd m pn ts cs ρ
theorem phi_mk_spec (n:Nat) (ps:List Value) (g:Int) (i:Int) (sb:Bool) (sn:ByteArray) (sd:ByteArray) (m:Nat) (pn:Nat) (ts:List Value) (cs:List Value) (h:pre_mk n ps g i sb sn sd m pn ts cs):LoopTo Try.prog (lb 7 p_mk) (sh_mk n ps g i sb sn sd m pn ts cs) (hp_mk n ps g i sb sn sd m pn ts cs) (.exit 1) (sh_mk n ps g ((phi_mk n ps g i sb sn sd m pn ts cs).1) sb sn sd ((phi_mk n ps g i sb sn sd m pn ts cs).2.1) pn ((phi_mk n ps g i sb sn sd m pn ts cs).2.2) cs) (hp_mk n ps g ((phi_mk n ps g i sb sn sd m pn ts cs).1) sb sn sd ((phi_mk n ps g i sb sn sd m pn ts cs).2.1) pn ((phi_mk n ps g i sb sn sd m pn ts cs).2.2) cs)∧post_mk n ps g i sb sn sd m pn ts cs (phi_mk n ps g i sb sn sd m pn ts cs):=Classical.epsilon_spec (loop_mk n ps g i sb sn sd m pn ts cs h)
def cond_mk (n:Nat) (ps:List Value) (g:Int) (i:Int) (sb:Bool) (sn:ByteArray) (sd:ByteArray) (m:Nat) (pn:Nat) (ts:List Value) (cs:List Value):Bool:= @decide (pre_mk n ps g i sb sn sd m pn ts cs) (Classical.propDecidable _)
theorem cond_mk_eq (n:Nat) (ps:List Value) (g:Int) (i:Int) (sb:Bool) (sn:ByteArray) (sd:ByteArray) (m:Nat) (pn:Nat) (ts:List Value) (cs:List Value) (h:pre_mk n ps g i sb sn sd m pn ts cs):cond_mk n ps g i sb sn sd m pn ts cs=true:= @decide_eq_true _ (Classical.propDecidable _) h
theorem told_mk_ok (T:List AV) (H:Hp) (e:Ex) (T1:List AV) (H1:Hp) (h:told_mk cond_mk phi_mk T H=some (true,e,T1,H1)):V.Ends Try.prog false 0 0 (.loop (lb 7 p_mk)) T H e T1 H1:=by
 unfold told_mk at h
 split at h
 ·rename_i n f_ps g i sb sn sd fa2_1 m fa2_2 pn l_ts cs h0 h2 h4 h6 h8 h9
  rw [Bool.cond_eq_ite] at h
  split at h
  ·rename_i hlen
   rw [beq_iff_eq] at hlen
   simp only [Option.some.injEq,Prod.mk.injEq,Bool.and_eq_true,decide_eq_true_eq] at h
   obtain ⟨⟨⟨k1,k2⟩,k3⟩,rfl,rfl,rfl⟩:=h
   have kc:= @of_decide_eq_true _ (Classical.propDecidable _) k3
   refine Ends.pre (Ends.preH (phi_mk_spec n (rowV 6 n f_ps) g i sb sn sd m pn (l_ts.map unVal) cs kc).1.ends (sameH.cons (sameB.refl _) (sameH.cons (sameB.refl _) (sameH.cons ⟨⟨rfl,fun _ _ _ _ _ hh=>rel_slf hh⟩,rfl,rfl⟩ (sameH.cons ⟨same_avs (vals_map k2).symm,rfl,rfl⟩ (sameH.cons (sameB.refl _) sameH.nil)))))) (fun α B w D ys hr=>slots_rel hlen (fun p hp y hy=> ?_) hr)
   simp only [List.mem_cons,List.not_mem_nil,or_false] at hp
   rcases hp with rfl | rfl | rfl | rfl | rfl | rfl
   ·rw [h0] at hy;exact row_normV (by kernel_rfl) k1 hy
   ·rw [h2] at hy;exact hy
   ·rw [h4] at hy;exact hy
   ·rw [h6] at hy;exact hy
   ·rw [h8] at hy;exact hy
   ·rw [h9] at hy;exact hy
  ·cases h
 ·cases h
theorem LL_mk_ok {L:LTab} (h:LOk Try.prog L):LOk Try.prog (LL_mk cond_mk phi_mk L):=h.add2n body_mk told_mk_ok
end
end Go.Proofs.Ytdnmkehncpfnnaa.L
namespace Go.Proofs.Ytdnmkehncpfnnaa.L
open Go Go.V Go.RowKit Go.Proofs.Ytdnmkehncpfnnaa.Sp
open Go.Proofs (Try.prog)
noncomputable section
def CMkC (U:Ug) (Z:Qg):FuncId→TF:=addC 21 (tCont U) (addC 24 (tQCheck Z) (addC 13 (tQSign Z) noC))
theorem make_call (U:Ug) (Z:Qg) (κ:KT_mk) (φ:FT_mk) (n:Nat) (ps:List Value) (sb:Bool) (sn sd:BA) (g:Int):letI q_2:=(rowV (6:Nat) n (vrow (6:Nat) ps));letI q_1:=(φ n q_2 g (1:Int) sb sn sd (1:Nat) ((0:Nat)+n) [Value.bool false,Value.string (ByteArray.mk #[]),Value.string (ByteArray.mk #[])] q_2);
  (callA Try.prog ⟨CMkC U Z,Kall,LL_mk κ φ noL⟩ 10 10 7 [.lst false 41 n (vrow 6 ps),w3 sb sn sd, .val (.int .i64 g)]=(bif decide ((↑n:Int)=(0:Int)) then some (.tup [(.agg [(.val (.slice .none 0 0)),(.val (.slice .none 0 0))]),(.val (.int .i64 11))]) else (bif decide ((1000:Int) < (↑n:Int)) then some (.tup [(.agg [(.val (.slice .none 0 0)),(.val (.slice .none 0 0))]),(.val (.int .i64 4))]) else (bif okV (6:Nat) n (vrow (6:Nat) ps)&&U.okq n q_2 then (bif U.bad n q_2 then some (.tup [(.agg [(.val (.slice .none 0 0)),(.val (.slice .none 0 0))]),(.val (.int .i64 1))]) else (bif Z.ok sn sd then (bif !decide (Z.ck sb sn sd=(0:Int)) then some (.tup [(.agg [(.val (.slice .none 0 0)),(.val (.slice .none 0 0))]),(.val (.int .i64 1))]) else (bif Z.ok sn sd then (bif decide (Z.sq (Z.qv sb sn sd)≤(0:Int)) then some (.tup [(.agg [(.val (.slice .none 0 0)),(.val (.slice .none 0 0))]),(.val (.int .i64 2))]) else (bif decide (g < (1:Int)) then some (.tup [(.agg [(.val (.slice .none 0 0)),(.val (.slice .none 0 0))]),(.val (.int .i64 2))]) else (bif decide ((1000:Int) < g) then some (.tup [(.agg [(.val (.slice .none 0 0)),(.val (.slice .none 0 0))]),(.val (.int .i64 2))]) else (bif decide ((0:Nat) < n) then (bif okV (6:Nat) n (vrow (6:Nat) ps) then (bif roomA Try.prog ((0:Nat)+n) (41:Nat)&&(Cont.vals q_2).allOne then (bif decide (n=(0:Nat)) then none else (bif okV (6:Nat) n (vrow (6:Nat) ps)&&true&&κ n q_2 g (1:Int) sb sn sd (1:Nat) ((0:Nat)+n) [Value.bool false,Value.string (ByteArray.mk #[]),Value.string (ByteArray.mk #[])] q_2 then (bif decide ((0:Nat)+q_1.snd.fst*(3:Nat)≤(Cont.vals q_1.snd.snd).len) then (bif decide ((0:Nat)+((0:Nat)+n)*(6:Nat)≤(Cont.vals q_2).len) then some (.tup [(.agg [(.lst false 24 (q_1.snd.fst) (contF (Cont.vals q_1.snd.snd) [] (0:Nat) (3:Nat))),(.lst false 41 ((0:Nat)+n) (contF (Cont.vals q_2) [] (0:Nat) (6:Nat)))]),(.val (.int .i64 0))]) else none) else none) else none)) else none) else none) else none)))) else none)) else none)) else none)))):=by kernel_rfl
end
end Go.Proofs.Ytdnmkehncpfnnaa.L
namespace Go.Proofs.Ytdnmkehncpfnnaa.L
open Go Go.V Go.RowKit Go.Proofs.Ytdnmkehncpfnnaa.Sp
open Go.Proofs (Try.prog)
noncomputable section
structure Wg where
 me:Nat→List Value→Bool→BA→BA→Int→Int
 mo:Nat→List Value→BA→BA→Bool
 tm:Nat→List Value→Rat→Int→List Value
def meN (n:Nat) (ps:List Value) (sb:Bool) (sn sd:BA) (g:Int):Int:=
 if n=0 then 11 else if 1000 < n then 4 else if badN n ps=true∨¬ sq0.ck sb sn sd=0 then 1 else if sq0.sq (sq0.qv sb sn sd)≤0∨g < 1∨1000 < g then 2 else 0
def moN (n:Nat) (ps:List Value) (sn sd:BA):Bool:=okqN n ps&&hg0.ok sn sd&&(decide (n≤10) ||decide (1000 < n))
def tmN (n:Nat) (ps:List Value) (s:Rat) (g:Int):List Value:=cells3 n (tmR ps s g)
def wg0:Wg where
 me:=meN
 mo:=moN
 tm:=tmN
def vNil:AV:= .val (.slice none 0 0)
def vTrj (n:Nat) (ts ps:List Value):AV:= .agg [.lst false 24 n (vrow 3 ts), .lst false 41 n (vrow 6 ps)]
def tMkO (W:Wg) (Z:Qg):TF:=fun args=>match args with
 | [.lst _ 41 n f, .agg [.val (.bool sb), .val (.string sn), .val (.string sd)], .val (.int .i64 g)]=>
  some (okV 6 n f&&(W.mo n (rowV 6 n f) sn sd&&decide (W.me n (rowV 6 n f) sb sn sd g=0)), .tup [vTrj n (W.tm n (rowV 6 n f) (Z.qv sb sn sd) g) (rowV 6 n f), .val (.int .i64 0)])
 | _=>none
def tMkE (W:Wg):TF:=fun args=>match args with
 | [.lst _ 41 n f, .agg [.val (.bool sb), .val (.string sn), .val (.string sd)], .val (.int .i64 g)]=>
  some (okV 6 n f&&(W.mo n (rowV 6 n f) sn sd&& !decide (W.me n (rowV 6 n f) sb sn sd g=0)), .tup [.agg [vNil,vNil], .val (.int .i64 (W.me n (rowV 6 n f) sb sn sd g))])
 | _=>none
def vMk (n:Nat) (ps:List Value) (sb:Bool) (sn sd:BA) (g:Int):AV:=bif decide (meN n ps sb sn sd g=0) then .tup [vTrj n (tmN n ps (sq0.qv sb sn sd) g) ps, .val (.int .i64 0)] else .tup [.agg [vNil,vNil], .val (.int .i64 (meN n ps sb sn sd g))]
theorem mk_entries {f:FuncId} (hok:okFn Try.prog f=true) (H:∀ (n:Nat) (ps:List Value) (sb:Bool) (sn sd:BA) (g:Int),ps.length=n*6→moN n ps sn sd=true→∃ (E:Env) (u d:Nat),Meets Try.prog E.C∧LoopsOk Try.prog E∧callA Try.prog E u d f [.lst false 41 n (vrow 6 ps),w3 sb sn sd, .val (.int .i64 g)]=some (vMk n ps sb sn sd g)):
  Entry Try.prog f (tMkO wg0 sq0)∧Entry Try.prog f (tMkE wg0):=by
 constructor
 ·refine entry_at hok (fun args r h=> ?_)
  unfold tMkO at h
  split at h
  ·rename_i fl n fn sb sn sd g
   simp only [Option.some.injEq,Prod.mk.injEq,Bool.and_eq_true,decide_eq_true_eq] at h
   obtain ⟨⟨h1,h2,h3⟩,rfl⟩:=h
   obtain ⟨E,u,d,c1,c2,c3⟩:=H n (rowV 6 n fn) sb sn sd g (rowV_len 6 n fn) h2
   have h3:meN n (rowV 6 n fn) sb sn sd g=0:=h3
   refine ⟨E,u,d,_,_,c1,c2,c3,ImpL.cons (Imp.row (by kernel_rfl) h1) (ImpL.refl _), ?_⟩
   unfold vMk
   rw [decide_eq_true h3]
   exact Imp.refl _
  ·cases h
 ·refine entry_at hok (fun args r h=> ?_)
  unfold tMkE at h
  split at h
  ·rename_i fl n fn sb sn sd g
   simp only [Option.some.injEq,Prod.mk.injEq,Bool.and_eq_true,Bool.not_eq_true',decide_eq_false_iff_not] at h
   obtain ⟨⟨h1,h2,h3⟩,rfl⟩:=h
   obtain ⟨E,u,d,c1,c2,c3⟩:=H n (rowV 6 n fn) sb sn sd g (rowV_len 6 n fn) h2
   have h3:¬ meN n (rowV 6 n fn) sb sn sd g=0:=h3
   refine ⟨E,u,d,_,_,c1,c2,c3,ImpL.cons (Imp.row (by kernel_rfl) h1) (ImpL.refl _), ?_⟩
   unfold vMk
   rw [decide_eq_false h3]
   exact Imp.refl _
  ·cases h
section
variable {n : Nat} {ps : List Value} {sb : Bool} {sn sd : BA} {g : Int}
theorem vMk_err {e:Int} (h:meN n ps sb sn sd g=e) (he:e≠0):vMk n ps sb sn sd g= .tup [.agg [.val (.slice none 0 0), .val (.slice none 0 0)], .val (.int .i64 e)]:=by
 unfold vMk
 rw [h,decide_eq_false he];rfl
theorem vMk_ok (h:meN n ps sb sn sd g=0):vMk n ps sb sn sd g= .tup [.agg [.lst false 24 n (vrow 3 (cells3 n (tmR ps (sq0.qv sb sn sd) g))), .lst false 41 n (vrow 6 ps)], .val (.int .i64 0)]:=by
 unfold vMk
 rw [h];rfl
theorem sq_le {q:Rat} :sq0.sq q≤0↔¬ 0 < q:=by
 show cqn q 0≤0↔_
 unfold cqn
 have this:q < 0→¬ 0 < q:=by grind
 split
 ·rename_i h
  exact ⟨fun _=>this h,fun _=>by omega⟩
 ·split
  ·rename_i h
   exact ⟨fun h2=>by omega,fun h2=>absurd h h2⟩
  ·rename_i h
   exact ⟨fun _=>h,fun _=>by omega⟩
theorem moN_out (h:moN n ps sn sd=true):okqN n ps=true∧hg0.ok sn sd=true∧(n≤10∨1000 < n):=by
 unfold moN at h
 rw [Bool.and_eq_true,Bool.and_eq_true,Bool.or_eq_true,decide_eq_true_eq,decide_eq_true_eq] at h
 exact ⟨h.1.1,h.1.2,h.2⟩
theorem contF_vrow (sz:Nat) (vs:List Value):contF (.vals vs) [] 0 sz=vrow sz vs:=by
 funext j q
 show AV.val (vs.getD (0+j*sz+q) undef)=_
 rw [Nat.zero_add];rfl
theorem room_pt {m:Nat} (h:m≤2000):roomA Try.prog m 41=true:=by
 have e:Try.prog.bytesOf 41=80:=by kernel_rfl
 unfold roomA
 rw [e,decide_eq_true (show m*80≤140737488355328 by omega),decide_eq_true (show m≤9223372036854775807 by omega)];rfl
end
theorem CMkC_ok:Meets Try.prog (CMkC ug0 sq0):=(((meets_none _).add eQSign).add eQCheck).add eCont
theorem allOne_pts {n:Nat} {ps:List Value} (hl:ps.length=n*6) (h:∀ j,j < n→okQ ps j=true):(Cont.vals ps).allOne=true:=by
 show ps.all (·.oneCell')=true
 rw [List.all_eq_true]
 intro v hv
 obtain ⟨i,hi,rfl⟩:=List.getElem_of_mem hv
 have hj:i / 6 < n:=by omega
 obtain ⟨⟨k1,k2⟩,_,_⟩:=okQ_out (h _ hj)
 obtain ⟨a1,a2,a3⟩:=isRat_out k1
 obtain ⟨b1,b2,b3⟩:=isRat_out k2
 have e:ps[i]=ps.getD (i / 6*6+i % 6) undef:=by
  rw [Nat.div_add_mod',List.getD_eq_getElem?_getD,List.getElem?_eq_getElem hi];rfl
 rw [e]
 have h6:i % 6=0∨i % 6=1∨i % 6=2∨i % 6=3∨i % 6=4∨i % 6=5:=by omega
 rcases h6 with h6 | h6 | h6 | h6 | h6 | h6 <;> rw [h6]
 ·rw [a1];rfl
 ·rw [a2];rfl
 ·rw [a3];rfl
 ·rw [b1];rfl
 ·rw [b2];rfl
 ·rw [b3];rfl
theorem meN_good {n:Nat} {ps:List Value} {sb:Bool} {sn sd:BA} {g:Int} (ho:okqN n ps=true) (hs:hg0.ok sn sd=true) (h0:¬ n=0) (h1:n≤10) (hp:0 < sq0.qv sb sn sd) (hg:1≤g∧g≤1000):MkOk n ps sb sn sd g:=
 ⟨h1,(okqN_out (show ug0.okq n ps=true from ho)).2,hs,hp,hg⟩
theorem make_val (n:Nat) (ps:List Value) (sb:Bool) (sn sd:BA) (g:Int) (hl:ps.length=n*6) (ho:moN n ps sn sd=true):callA Try.prog ⟨CMkC ug0 sq0,Kall,LL_mk cond_mk phi_mk noL⟩ 10 10 7 [.lst false 41 n (vrow 6 ps),w3 sb sn sd, .val (.int .i64 g)]=some (vMk n ps sb sn sd g):=by
 obtain ⟨o1,o2,o3⟩:=moN_out ho
 rw [make_call,rowV_vrow hl,okV_vrow,ok12_q o2]
 by_cases h0:n=0
 ·rw [vMk_err (e:=11) (if_pos h0) (by decide),dT (show (n:Int)=0 by omega)];rfl
 rw [dF (show ¬ (n:Int)=0 by omega)]
 by_cases h1:1000 < n
 ·rw [vMk_err (e:=4) (by unfold meN;rw [if_neg h0,if_pos h1]) (by decide),dT (show (1000:Int) < n by omega)];rfl
 rw [dF (show ¬ (1000:Int) < n by omega),show ug0.okq n ps=true from o1]
 by_cases hb:ug0.bad n ps=true
 ·rw [vMk_err (e:=1) (by unfold meN;rw [if_neg h0,if_neg h1,if_pos (.inl hb)]) (by decide),hb];rfl
 rw [Bool.eq_false_iff.2 hb]
 by_cases hc:sq0.ck sb sn sd=0
 ·rw [dT hc]
  have hbc:¬ (badN n ps=true∨¬ sq0.ck sb sn sd=0):=fun h=>h.elim hb (fun h=>h hc)
  by_cases hs:sq0.sq (sq0.qv sb sn sd)≤0
  ·rw [vMk_err (e:=2) (by unfold meN;rw [if_neg h0,if_neg h1,if_neg hbc,if_pos (.inl hs)]) (by decide),dT hs];rfl
  rw [dF hs]
  by_cases hg:g < 1
  ·rw [vMk_err (e:=2) (by unfold meN;rw [if_neg h0,if_neg h1,if_neg hbc,if_pos (.inr (.inl hg))]) (by decide),dT hg];rfl
  rw [dF hg]
  by_cases hg2:1000 < g
  ·rw [vMk_err (e:=2) (by unfold meN;rw [if_neg h0,if_neg h1,if_neg hbc,if_pos (.inr (.inr hg2))]) (by decide),dT hg2];rfl
  have hM:MkOk n ps sb sn sd g:=meN_good o1 o2 h0 (by omega) (Classical.not_not.1 fun h=>hs (sq_le.2 h)) (by omega)
  rw [dF hg2,dT (show 0 < n by omega),dF h0,Nat.zero_add,room_pt (by omega),allOne_pts hl hM.pts,vMk_ok (by unfold meN;rw [if_neg h0,if_neg h1,if_neg hbc,if_neg (fun h=>h.elim hs (fun h=>h.elim hg hg2))])]
  have hq:pre_mk n ps g 1 sb sn sd 1 n [Value.bool false,Value.string (ByteArray.mk #[]),Value.string (ByteArray.mk #[])] ps:= ⟨hM,by omega,rfl,rfl,(cells3_one _ rfl).symm⟩
  have hp:=(phi_mk_spec _ _ _ _ _ _ _ _ _ _ _ hq).2
  rw [cond_mk_eq _ _ _ _ _ _ _ _ _ _ _ hq,show (phi_mk n ps g 1 sb sn sd 1 n [Value.bool false,Value.string (ByteArray.mk #[]),Value.string (ByteArray.mk #[])] ps).2=(n,cells3 n (tmR ps (sq0.qv sb sn sd) g)) from hp]
  rw [contF_vrow,contF_vrow,dT (show 0+n*3≤(Cont.vals (cells3 n (tmR ps (sq0.qv sb sn sd) g))).len from by show _≤(cells3 _ _).length;rw [cells3_len];omega),dT (show 0+n*6≤(Cont.vals ps).len from by show _≤ps.length;omega)]
  rfl
 ·rw [vMk_err (e:=1) (by unfold meN;rw [if_neg h0,if_neg h1,if_pos (.inr hc)]) (by decide),dF hc];rfl
theorem eMakes:Entry Try.prog 7 (tMkO wg0 sq0)∧Entry Try.prog 7 (tMkE wg0):=mk_entries (by kernel_rfl) fun n ps sb sn sd g hl ho=> ⟨_,10,10,CMkC_ok,(LL_mk_ok LOk.none).ok,make_val n ps sb sn sd g hl ho⟩
end
end Go.Proofs.Ytdnmkehncpfnnaa.L
