import Derived.Test.YtamcpiicmfielaaGreatZV2
import Derived.Test.YtamcpiicmfielaaGreatZQA
import Derived.Test.YtamcpiicmfielaaGreatZUA
import Derived.Test.YtamcpiicmfielaaGreatZMD
set_option linter.unusedVariables false
set_option linter.unusedSimpArgs false
namespace Go.Proofs.YtamcpiicmfielaaGreat.L
open Go Go.V Go.RowKit Go.Proofs.YtamcpiicmfielaaGreat.Sp
open Go.Proofs (Tryz.prog)
noncomputable section
abbrev BA:Type:=ByteArray
structure Hg where
 gr:BA→BA→Bool
 kv:Bool→BA→BA→Bool→BA→BA→Int
 ok:BA→BA→Bool
 ds:Rat→Rat→Rat→Rat→Rat
 st:Rat→Rat→Int→Int
 okn:BA→BA→Bool
 pos:Rat→Rat→Bool
def p1 (f:Bool→BA→BA→Option (Bool×AV)):TF:=fun args=>match args with
 | [.agg [.val (.bool b), .val (.string n), .val (.string d)]]=>f b n d
 | _=>none
def p2 (f:Bool→BA→BA→Bool→BA→BA→Option (Bool×AV)):TF:=fun args=>match args with
 | [.agg [.val (.bool b), .val (.string n), .val (.string d), .val (.bool c), .val (.string m), .val (.string e)]]=>f b n d c m e
 | _=>none
def p3 (f:Bool→BA→BA→Bool→BA→BA→Bool→BA→BA→Bool→BA→BA→Option (Bool×AV)):TF:=fun args=>match args with
 | [.agg [.val (.bool b), .val (.string n), .val (.string d), .val (.bool c), .val (.string m), .val (.string e)], .agg [.val (.bool b2), .val (.string n2), .val (.string d2), .val (.bool c2), .val (.string m2), .val (.string e2)]]=>f b n d c m e b2 n2 d2 c2 m2 e2
 | _=>none
def p4 (f:Bool→BA→BA→Bool→BA→BA→Int→Option (Bool×AV)):TF:=fun args=>match args with
 | [.agg [.val (.bool b), .val (.string n), .val (.string d)], .agg [.val (.bool c), .val (.string m), .val (.string e)], .val (.int .i64 g)]=>f b n d c m e g
 | _=>none
def tGreat (K:Hg):TF:=p1 fun b n d=>some (true, .val (.bool (K.gr n d)))
def tVCheck (K:Hg):TF:=p2 fun b n d c m e=>some (K.ok n d&&K.ok m e, .val (.int .i64 (K.kv b n d c m e)))
def upN (q:Nat):Nat:=if rootN q*rootN q=q then rootN q else rootN q+1
def stN (x s:Rat) (g:Int):Int:=let q:=(x*((g:Rat)*(g:Rat)) / (s*s)).ceil;max 1 ((upN q.natAbs:Nat):Int)
def hg0:Hg where
 gr n d:=decide (12 < n.size) ||decide (12 < d.size)
 kv b n d c m e:=bif decide (sq0.ck b n d=0)&&decide (sq0.ck c m e=0) then 0 else 1
 ok n d:=decide (n.size≤12)&&decide (d.size≤12)
 ds x y u v:=(x - u)*(x - u)+(y - v)*(y - v)
 st:=stN
 okn n d:=decide (n.size≤200)&&decide (d.size≤200)
 pos x s:=decide (0≤x)&&decide (0 < s)
end
end Go.Proofs.YtamcpiicmfielaaGreat.L
namespace Go.Proofs.YtamcpiicmfielaaGreat.L
open Go Go.V Go.RowKit Go.Proofs.YtamcpiicmfielaaGreat.Sp
open Go.Proofs (Tryz.prog)
noncomputable section
abbrev w3 (b:Bool) (n d:BA):AV:= .agg [.val (.bool b), .val (.string n), .val (.string d)]
abbrev w6 (b:Bool) (n d:BA) (c:Bool) (m e:BA):AV:= .agg [.val (.bool b), .val (.string n), .val (.string d), .val (.bool c), .val (.string m), .val (.string e)]
def CQd (Z:Qg):FuncId→TF:=addC 31 (tQSub Z) (addC 30 (tQMul Z) (addC 29 (tQAdd Z) noC))
theorem great_tree (b:Bool) (n d:BA):callA Tryz.prog ⟨noC,Kall,noL⟩ 10 10 8 [w3 b n d]=
  (bif decide ((12:Int) < (↑(ByteArray.size n):Int)) then some (.val (.bool true)) else some (.val (.bool (decide ((12:Int) < (↑(ByteArray.size d):Int)))))):=by kernel_rfl
theorem vck_tree (Z:Qg) (b c:Bool) (n d m e:BA):callA Tryz.prog ⟨addC 49 (tQCheck Z) noC,Kall,noL⟩ 10 10 57 [w6 b n d c m e]=
  (bif Z.ok n d then (bif !decide (Z.ck b n d=(0:Int)) then some (.val (.int .i64 1)) else (bif Z.ok m e then (bif !decide (Z.ck c m e=(0:Int)) then some (.val (.int .i64 1)) else some (.val (.int .i64 0))) else none)) else none):=by kernel_rfl
theorem rvck_tree (Z:Qg) (b c:Bool) (n d m e:BA):callA Tryz.prog ⟨addC 51 (tR1 Z fun b n d=> .val (.int .i64 (Z.ck b n d))) noC,Kall,noL⟩ 10 10 58 [w6 b n d c m e]=
  (bif Z.oks n d then (bif !decide (Z.ck b n d=(0:Int)) then some (.val (.int .i64 1)) else (bif Z.oks m e then (bif !decide (Z.ck c m e=(0:Int)) then some (.val (.int .i64 1)) else some (.val (.int .i64 0))) else none)) else none):=by kernel_rfl
end
end Go.Proofs.YtamcpiicmfielaaGreat.L
namespace Go.Proofs.YtamcpiicmfielaaGreat.L
open Go Go.V Go.RowKit Go.Proofs.YtamcpiicmfielaaGreat.Sp
open Go.Proofs (Tryz.prog)
noncomputable section
theorem ok12_out {n d:BA} (h:hg0.ok n d=true):n.size≤12∧d.size≤12:=by
 have h2:(decide (n.size≤12)&&decide (d.size≤12))=true:=h
 rwa [Bool.and_eq_true,decide_eq_true_eq,decide_eq_true_eq] at h2
theorem ok12_q {n d:BA} (h:hg0.ok n d=true):sq0.ok n d=true:=qok_in (by have:=ok12_out h;omega) (by have:=ok12_out h;omega)
theorem ok12_s {n d:BA} (h:hg0.ok n d=true):sq0.oks n d=true:=qoks_in (by have:=ok12_out h;omega) (by have:=ok12_out h;omega)
theorem ok12_sz {b:Bool} {n d:BA} (h:hg0.ok n d=true):szq (sq0.qv b n d)≤12:=by
 have:=szq_val b n d
 have:=ok12_out h
 omega
theorem eGreat:Entry Tryz.prog 8 (tGreat hg0):=by
 refine entry_of (E:= ⟨noC,Kall,noL⟩) (u:=10) (d:=10) (meets_none _) loops_none mixed (by kernel_rfl) (fun args r h=> ?_)
 unfold tGreat p1 at h
 split at h
 ·rename_i b n d
  simp only [Option.some.injEq,Prod.mk.injEq,true_and] at h
  subst h
  rw [great_tree]
  have e1:decide ((12:Int) < (n.size:Int))=decide (12 < n.size):=decide_eq_decide.2 (by omega)
  have e2:decide ((12:Int) < (d.size:Int))=decide (12 < d.size):=decide_eq_decide.2 (by omega)
  have e3:hg0.gr n d=(decide (12 < n.size) ||decide (12 < d.size)):=rfl
  rw [e1,e2,e3]
  cases decide (12 < n.size) <;> rfl
 ·cases h
theorem kv_eq (b c:Bool) (n d m e:BA):hg0.kv b n d c m e=bif decide (sq0.ck b n d=0)&&decide (sq0.ck c m e=0) then 0 else 1:=rfl
theorem eVCheck:Entry Tryz.prog 57 (tVCheck hg0):=by
 refine entry_of (E:= ⟨addC 49 (tQCheck sq0) noC,Kall,noL⟩) (u:=10) (d:=10) ((meets_none _).add eQCheck) loops_none mixed (by kernel_rfl) (fun args r h=> ?_)
 unfold tVCheck p2 at h
 split at h
 ·rename_i b n d c m e
  simp only [Option.some.injEq,Prod.mk.injEq,Bool.and_eq_true] at h
  obtain ⟨⟨h1,h2⟩,rfl⟩:=h
  rw [vck_tree,ok12_q h1,ok12_q h2,kv_eq]
  cases decide (sq0.ck b n d=0) <;> cases decide (sq0.ck c m e=0) <;> rfl
 ·cases h
theorem eRVCheck:Entry Tryz.prog 58 (tVCheck hg0):=by
 refine entry_of (E:= ⟨addC 51 (tR1 sq0 fun b n d=> .val (.int .i64 (sq0.ck b n d))) noC,Kall,noL⟩) (u:=10) (d:=10) ((meets_none _).add eRQCheck) loops_none mixed (by kernel_rfl) (fun args r h=> ?_)
 unfold tVCheck p2 at h
 split at h
 ·rename_i b n d c m e
  simp only [Option.some.injEq,Prod.mk.injEq,Bool.and_eq_true] at h
  obtain ⟨⟨h1,h2⟩,rfl⟩:=h
  rw [rvck_tree,ok12_s h1,ok12_s h2,kv_eq]
  cases decide (sq0.ck b n d=0) <;> cases decide (sq0.ck c m e=0) <;> rfl
 ·cases h
theorem CQd_ok:Meets Tryz.prog (CQd sq0):=(((meets_none _).add eQAdd).add eQMul).add eQSub
end
end Go.Proofs.YtamcpiicmfielaaGreat.L
namespace Go.Proofs.YtamcpiicmfielaaGreat.L
open Go Go.V Go.RowKit Go.Proofs.YtamcpiicmfielaaGreat.Sp
open Go.Proofs (Tryz.prog)
noncomputable section
theorem okz {z:Int} (h:bs z.natAbs≤1000):sg0.ok (sg0.ms z)=true:=ok_ms (by omega)
end
end Go.Proofs.YtamcpiicmfielaaGreat.L
namespace Go.Proofs.YtamcpiicmfielaaGreat.L
open Go Go.V Go.RowKit Go.Proofs.YtamcpiicmfielaaGreat.Sp
open Go.Proofs (Tryz.prog)
noncomputable section
def EGp (K:Hg):Env:= ⟨addC 8 (gR (tGreat K)) noC,Kall,noL⟩
def okP (ps:List Value) (j:Nat):Bool:=isRat (ps.getD (j*6+0) undef) (ps.getD (j*6+1) undef) (ps.getD (j*6+2) undef)&&isRat (ps.getD (j*6+3) undef) (ps.getD (j*6+4) undef) (ps.getD (j*6+5) undef)
def grX (ps:List Value) (j:Nat):Bool:=hg0.gr (asS (ps.getD (j*6+1) undef)) (asS (ps.getD (j*6+2) undef))
def grY (ps:List Value) (j:Nat):Bool:=hg0.gr (asS (ps.getD (j*6+4) undef)) (asS (ps.getD (j*6+5) undef))
theorem okP_out {ps:List Value} {j:Nat} (h:okP ps j=true):isRat (ps.getD (j*6+0) undef) (ps.getD (j*6+1) undef) (ps.getD (j*6+2) undef)=true∧isRat (ps.getD (j*6+3) undef) (ps.getD (j*6+4) undef) (ps.getD (j*6+5) undef)=true:=by
 unfold okP at h
 rwa [Bool.and_eq_true] at h
abbrev p_gp:List Bool:= [false,true,false,true]
def sh_gp (n:Nat) (ps:List Value) (r:Bool) (i:Int):List AV:=slots 37 [(0, .lst false 35 n (vrow 6 ps)),(2, .val (.bool r)),(3, .val (.int .i64 i))]
def hp_gp (n:Nat) (ps:List Value) (r:Bool) (i:Int):Hp:= []
theorem body_gp:subC Tryz.prog 36 p_gp=some (.loop (lb 36 p_gp)):=by kernel_rfl
theorem code_gp:subC Tryz.prog 36 (false :: p_gp)=some (lb 36 p_gp):=by kernel_rfl
theorem round_gp (K:Hg) (n:Nat) (ps:List Value) (r:Bool) (i:Int):
  (roundA Tryz.prog (EGp K) 36 [0,2,3] (lb 36 p_gp) (false :: p_gp) (sh_gp n ps r i) (hp_gp n ps r i)=(bif decide (i < (↑n:Int)) then (bif decide ((0:Int)≤i)&&decide (i < (↑n:Int)) then (bif isRat (ps.getD (i.toNat*(6:Nat)+(0:Nat)) undef) (ps.getD (i.toNat*(6:Nat)+(1:Nat)) undef) (ps.getD (i.toNat*(6:Nat)+(2:Nat)) undef)&&true then (bif K.gr (asS (ps.getD (i.toNat*(6:Nat)+(1:Nat)) undef)) (asS (ps.getD (i.toNat*(6:Nat)+(2:Nat)) undef)) then some (.ret,slots 37 [(0,(.lst false 35 n (vrow (6:Nat) ps))),(2,(.val (.bool true))),(3,(.val (.int .i64 i)))], []) else (bif decide ((0:Int)≤i)&&decide (i < (↑n:Int)) then (bif isRat (ps.getD (i.toNat*(6:Nat)+(3:Nat)) undef) (ps.getD (i.toNat*(6:Nat)+(4:Nat)) undef) (ps.getD (i.toNat*(6:Nat)+(5:Nat)) undef)&&true then (bif K.gr (asS (ps.getD (i.toNat*(6:Nat)+(4:Nat)) undef)) (asS (ps.getD (i.toNat*(6:Nat)+(5:Nat)) undef)) then some (.ret,slots 37 [(0,(.lst false 35 n (vrow (6:Nat) ps))),(2,(.val (.bool true))),(3,(.val (.int .i64 i)))], []) else (bif inR IntKind.i64 (i+(1:Int)) then some (.normal,slots 37 [(0,(.lst false 35 n (vrow (6:Nat) ps))),(2,(.val (.bool r))),(3,(.val (.int .i64 (i+(1:Int)))))], []) else none)) else none) else none)) else none) else none) else some ((.exit 0),slots 37 [(0,(.lst false 35 n (vrow (6:Nat) ps))),(2,(.val (.bool r))),(3,(.val (.int .i64 i)))], []))):=by kernel_rfl
theorem step_gp {n:Nat} {ps:List Value} {r:Bool} {i:Int} {e:Ex} {T:List AV} {H:Hp} (h:roundA Tryz.prog (EGp hg0) 36 [0,2,3] (lb 36 p_gp) (false :: p_gp) (sh_gp n ps r i) (hp_gp n ps r i)=some (e,T,H)):V.Ends Tryz.prog false 0 0 (lb 36 p_gp) (sh_gp n ps r i) (hp_gp n ps r i) e T H:=
 round_ends ((meets_none _).add eGreat.gR) loops_none mixed code_gp h
theorem gp_step (n:Nat) (ps:List Value) (r:Bool) (i:Nat) (hi:i < n) (hn:n≤9223372036854775807) (h1:okP ps i=true) (h2:grX ps i=false) (h3:grY ps i=false):V.Ends Tryz.prog false 0 0 (lb 36 p_gp) (sh_gp n ps r i) (hp_gp n ps r i) .normal (sh_gp n ps r ((i+1:Nat):Int)) (hp_gp n ps r ((i+1:Nat):Int)):=by
 have hr:=round_gp hg0 n ps r i
 obtain ⟨k1,k2⟩:=okP_out h1
 have k3:hg0.gr (asS (ps.getD (i*6+1) undef)) (asS (ps.getD (i*6+2) undef))=false:=h2
 have k4:hg0.gr (asS (ps.getD (i*6+4) undef)) (asS (ps.getD (i*6+5) undef))=false:=h3
 rw [Int.toNat_natCast,dT (show (i:Int) < (n:Int) by omega),dT (show (0:Int)≤(i:Int) by omega),k1,k2,k3,k4,i64T (z:=(i:Int)+1) (by omega)] at hr
 exact step_gp hr
def pre_gp (n:Nat) (ps:List Value) (r:Bool) (i:Int):Prop:=i=0∧n≤9223372036854775807∧∀ j,j < n→okP ps j=true∧grX ps j=false∧grY ps j=false
def post_gp (n:Nat) (ps:List Value) (r:Bool) (i:Int) (ρ:Int):Prop:=True
theorem gp_go (n:Nat) (ps:List Value) (r:Bool) (hn:n≤9223372036854775807) (h:∀ j,j < n→okP ps j=true∧grX ps j=false∧grY ps j=false) (k:Nat):∀ i,n=i+k→LoopTo Tryz.prog (lb 36 p_gp) (sh_gp n ps r (i:Nat)) (hp_gp n ps r (i:Nat)) (.exit 0) (sh_gp n ps r (n:Int)) (hp_gp n ps r (n:Int)):=by
 induction k with
 | zero=>
  intro i hi
  have:i=n:=by omega
  subst this
  refine .last (step_gp ?_) (by intro h;cases h)
  rw [round_gp,dF (show ¬ ((i:Nat):Int) < (i:Int) by omega)]
  rfl
 | succ k ih=>
  intro i hi
  obtain ⟨h1,h2,h3⟩:=h i (by omega)
  exact .more (gp_step n ps r i (by omega) hn h1 h2 h3) (ih (i+1) (by omega))
theorem loop_gp (n:Nat) (ps:List Value) (r:Bool) (i:Int) (h:pre_gp n ps r i):∃ ρ:Int,LoopTo Tryz.prog (lb 36 p_gp) (sh_gp n ps r i) (hp_gp n ps r i) (.exit 0) (sh_gp n ps r ρ) (hp_gp n ps r ρ)∧post_gp n ps r i ρ:=by
 obtain ⟨rfl,hn,h⟩:=h
 exact ⟨(n:Int),gp_go n ps r hn h n 0 (by omega),trivial⟩
def told_gp (κ:Nat→List Value→Bool→Int→Bool) (φ:Nat→List Value→Bool→Int→Int) (T:List AV) (H:Hp):Option (Bool×Ex×List AV×Hp):=
 match lget T 0,lget T 2,lget T 3,H with
 | .lst false 35 n f_ps, .val (.bool r), .val (.int .i64 i), []=>bif T.length==37 then some (okV 6 n f_ps&&κ n (rowV 6 n f_ps) r i, .exit 0,sh_gp n (rowV 6 n f_ps) r ((φ n (rowV 6 n f_ps) r i)),hp_gp n (rowV 6 n f_ps) r ((φ n (rowV 6 n f_ps) r i))) else none
 | _,_,_,_=>none
abbrev KT_gp:Type:=Nat→List Value→Bool→Int→Bool
abbrev FT_gp:Type:=Nat→List Value→Bool→Int→Int
def LL_gp (κ:KT_gp) (φ:FT_gp) (L:LTab):LTab:=addLn 0 36 p_gp [0,2,3] (told_gp κ φ) L
def phi_gp (n:Nat) (ps:List Value) (r:Bool) (i:Int):Int:=Classical.epsilon fun ρ=>LoopTo Tryz.prog (lb 36 p_gp) (sh_gp n ps r i) (hp_gp n ps r i) (.exit 0) (sh_gp n ps r (ρ)) (hp_gp n ps r (ρ))∧post_gp n ps r i ρ
theorem phi_gp_spec (n:Nat) (ps:List Value) (r:Bool) (i:Int) (h:pre_gp n ps r i):LoopTo Tryz.prog (lb 36 p_gp) (sh_gp n ps r i) (hp_gp n ps r i) (.exit 0) (sh_gp n ps r ((phi_gp n ps r i))) (hp_gp n ps r ((phi_gp n ps r i)))∧post_gp n ps r i (phi_gp n ps r i):=Classical.epsilon_spec (loop_gp n ps r i h)
def cond_gp (n:Nat) (ps:List Value) (r:Bool) (i:Int):Bool:= @decide (pre_gp n ps r i) (Classical.propDecidable _)
theorem cond_gp_eq (n:Nat) (ps:List Value) (r:Bool) (i:Int) (h:pre_gp n ps r i):cond_gp n ps r i=true:= @decide_eq_true _ (Classical.propDecidable _) h
theorem told_gp_ok (T:List AV) (H:Hp) (e:Ex) (T1:List AV) (H1:Hp) (h:told_gp cond_gp phi_gp T H=some (true,e,T1,H1)):V.Ends Tryz.prog false 0 0 (.loop (lb 36 p_gp)) T H e T1 H1:=by
 unfold told_gp at h
 split at h
 ·rename_i n f_ps r i h0 h2 h3
  rw [Bool.cond_eq_ite] at h
  split at h
  ·rename_i hlen
   rw [beq_iff_eq] at hlen
   simp only [Option.some.injEq,Prod.mk.injEq,Bool.and_eq_true,decide_eq_true_eq] at h
   obtain ⟨⟨k1,k2⟩,rfl,rfl,rfl⟩:=h
   have kc:= @of_decide_eq_true _ (Classical.propDecidable _) k2
   refine Ends.pre (phi_gp_spec n (rowV 6 n f_ps) r i kc).1.ends (fun α B w D ys hr=>slots_rel hlen (fun p hp y hy=> ?_) hr)
   simp only [List.mem_cons,List.not_mem_nil,or_false] at hp
   rcases hp with rfl | rfl | rfl
   ·rw [h0] at hy;exact row_normV (by kernel_rfl) k1 hy
   ·rw [h2] at hy;exact hy
   ·rw [h3] at hy;exact hy
  ·cases h
 ·cases h
theorem LL_gp_ok {L:LTab} (h:LOk Tryz.prog L):LOk Tryz.prog (LL_gp cond_gp phi_gp L):=h.add2n body_gp told_gp_ok
end
end Go.Proofs.YtamcpiicmfielaaGreat.L
namespace Go.Proofs.YtamcpiicmfielaaGreat.L
open Go Go.V Go.RowKit Go.Proofs.YtamcpiicmfielaaGreat.Sp
open Go.Proofs (Tryz.prog)
noncomputable section
abbrev p_gx:List Bool:= [false,true,false,true]
def sh_gx (n:Nat) (ps:List Value) (r:Bool) (i:Int):List AV:=slots 37 [(0, .lst false 35 n (vrow 6 ps)),(2, .val (.bool r)),(3, .val (.int .i64 i))]
def hp_gx (n:Nat) (ps:List Value) (r:Bool) (i:Int):Hp:= []
theorem body_gx:subC Tryz.prog 36 p_gx=some (.loop (lb 36 p_gx)):=by kernel_rfl
def grP (ps:List Value) (j:Nat):Bool:=grX ps j ||grY ps j
theorem gx_last (n:Nat) (ps:List Value) (r:Bool) (i:Nat) (hi:i < n) (hn:n≤9223372036854775807) (h1:okP ps i=true) (h2:grP ps i=true):V.Ends Tryz.prog false 0 0 (lb 36 p_gp) (sh_gp n ps r i) (hp_gp n ps r i) .ret (sh_gp n ps true i) (hp_gp n ps true i):=by
 have hr:=round_gp hg0 n ps r i
 obtain ⟨k1,k2⟩:=okP_out h1
 unfold grP at h2
 rw [Int.toNat_natCast,dT (show (i:Int) < (n:Int) by omega),dT (show (0:Int)≤(i:Int) by omega),k1,k2] at hr
 by_cases h3:grX ps i=true
 ·have k3:hg0.gr (asS (ps.getD (i*6+1) undef)) (asS (ps.getD (i*6+2) undef))=true:=h3
  rw [k3] at hr
  exact step_gp hr
 ·rw [Bool.not_eq_true] at h3
  rw [h3,Bool.false_or] at h2
  have k3:hg0.gr (asS (ps.getD (i*6+1) undef)) (asS (ps.getD (i*6+2) undef))=false:=h3
  have k4:hg0.gr (asS (ps.getD (i*6+4) undef)) (asS (ps.getD (i*6+5) undef))=true:=h2
  rw [k3,k4] at hr
  exact step_gp hr
def pre_gx (n:Nat) (ps:List Value) (r:Bool) (i:Int):Prop:=i=0∧n≤9223372036854775807∧(∀ j,j < n→okP ps j=true)∧∃ m,m < n∧(∀ j,j < m→grP ps j=false)∧grP ps m=true
def post_gx (n:Nat) (ps:List Value) (r:Bool) (i:Int) (ρ:Bool×Int):Prop:=ρ.1=true
theorem gx_go (n:Nat) (ps:List Value) (r:Bool) (hn:n≤9223372036854775807) (h:∀ j,j < n→okP ps j=true) (m:Nat) (hm:m < n) (hg:∀ j,j < m→grP ps j=false) (hb:grP ps m=true) (k:Nat):∀ i,m=i+k→LoopTo Tryz.prog (lb 36 p_gp) (sh_gp n ps r (i:Nat)) (hp_gp n ps r (i:Nat)) .ret (sh_gp n ps true (m:Int)) (hp_gp n ps true (m:Int)):=by
 induction k with
 | zero=>
  intro i hi
  have:i=m:=by omega
  subst this
  exact .last (gx_last n ps r i hm hn (h i hm) hb) (by intro h;cases h)
 | succ k ih=>
  intro i hi
  have h2:=hg i (by omega)
  unfold grP at h2
  rw [Bool.or_eq_false_iff] at h2
  exact .more (gp_step n ps r i (by omega) hn (h i (by omega)) h2.1 h2.2) (ih (i+1) (by omega))
theorem loop_gx (n:Nat) (ps:List Value) (r:Bool) (i:Int) (h:pre_gx n ps r i):∃ ρ:Bool×Int,LoopTo Tryz.prog (lb 36 p_gx) (sh_gx n ps r i) (hp_gx n ps r i) .ret (sh_gx n ps ρ.1 ρ.2) (hp_gx n ps ρ.1 ρ.2)∧post_gx n ps r i ρ:=by
 obtain ⟨rfl,hn,h,m,hm,hg,hb⟩:=h
 exact ⟨(true,(m:Int)),gx_go n ps r hn h m hm hg hb m 0 (by omega),rfl⟩
def told_gx (κ:Nat→List Value→Bool→Int→Bool) (φ:Nat→List Value→Bool→Int→Bool×Int) (T:List AV) (H:Hp):Option (Bool×Ex×List AV×Hp):=
 match lget T 0,lget T 2,lget T 3,H with
 | .lst false 35 n f_ps, .val (.bool r), .val (.int .i64 i), []=>bif T.length==37 then some (okV 6 n f_ps&&κ n (rowV 6 n f_ps) r i, .ret,sh_gx n (rowV 6 n f_ps) ((φ n (rowV 6 n f_ps) r i).1) ((φ n (rowV 6 n f_ps) r i).2),hp_gx n (rowV 6 n f_ps) ((φ n (rowV 6 n f_ps) r i).1) ((φ n (rowV 6 n f_ps) r i).2)) else none
 | _,_,_,_=>none
abbrev KT_gx:Type:=Nat→List Value→Bool→Int→Bool
abbrev FT_gx:Type:=Nat→List Value→Bool→Int→Bool×Int
def LL_gx (κ:KT_gx) (φ:FT_gx) (L:LTab):LTab:=addLn 0 36 p_gx [0,2,3] (told_gx κ φ) L
def phi_gx (n:Nat) (ps:List Value) (r:Bool) (i:Int):Bool×Int:=Classical.epsilon fun ρ=>LoopTo Tryz.prog (lb 36 p_gx) (sh_gx n ps r i) (hp_gx n ps r i) (.ret) (sh_gx n ps (ρ.1) (ρ.2)) (hp_gx n ps (ρ.1) (ρ.2))∧post_gx n ps r i ρ
theorem phi_gx_spec (n:Nat) (ps:List Value) (r:Bool) (i:Int) (h:pre_gx n ps r i):LoopTo Tryz.prog (lb 36 p_gx) (sh_gx n ps r i) (hp_gx n ps r i) (.ret) (sh_gx n ps ((phi_gx n ps r i).1) ((phi_gx n ps r i).2)) (hp_gx n ps ((phi_gx n ps r i).1) ((phi_gx n ps r i).2))∧post_gx n ps r i (phi_gx n ps r i):=Classical.epsilon_spec (loop_gx n ps r i h)
def cond_gx (n:Nat) (ps:List Value) (r:Bool) (i:Int):Bool:= @decide (pre_gx n ps r i) (Classical.propDecidable _)
theorem cond_gx_eq (n:Nat) (ps:List Value) (r:Bool) (i:Int) (h:pre_gx n ps r i):cond_gx n ps r i=true:= @decide_eq_true _ (Classical.propDecidable _) h
theorem told_gx_ok (T:List AV) (H:Hp) (e:Ex) (T1:List AV) (H1:Hp) (h:told_gx cond_gx phi_gx T H=some (true,e,T1,H1)):V.Ends Tryz.prog false 0 0 (.loop (lb 36 p_gx)) T H e T1 H1:=by
 unfold told_gx at h
 split at h
 ·rename_i n f_ps r i h0 h2 h3
  rw [Bool.cond_eq_ite] at h
  split at h
  ·rename_i hlen
   rw [beq_iff_eq] at hlen
   simp only [Option.some.injEq,Prod.mk.injEq,Bool.and_eq_true,decide_eq_true_eq] at h
   obtain ⟨⟨k1,k2⟩,rfl,rfl,rfl⟩:=h
   have kc:= @of_decide_eq_true _ (Classical.propDecidable _) k2
   refine Ends.pre (phi_gx_spec n (rowV 6 n f_ps) r i kc).1.ends (fun α B w D ys hr=>slots_rel hlen (fun p hp y hy=> ?_) hr)
   simp only [List.mem_cons,List.not_mem_nil,or_false] at hp
   rcases hp with rfl | rfl | rfl
   ·rw [h0] at hy;exact row_normV (by kernel_rfl) k1 hy
   ·rw [h2] at hy;exact hy
   ·rw [h3] at hy;exact hy
  ·cases h
 ·cases h
theorem LL_gx_ok {L:LTab} (h:LOk Tryz.prog L):LOk Tryz.prog (LL_gx cond_gx phi_gx L):=h.add2n body_gx told_gx_ok
end
end Go.Proofs.YtamcpiicmfielaaGreat.L
namespace Go.Proofs.YtamcpiicmfielaaGreat.L
open Go Go.V Go.RowKit Go.Proofs.YtamcpiicmfielaaGreat.Sp
open Go.Proofs (Tryz.prog)
noncomputable section
def Imp (a b:AV):Prop:=∀ (B:Nat→Prop) (w:World) (y:Value),a.Rel Tryz.prog NoA B w NoD y→b.Rel Tryz.prog NoA B w NoD y
def ImpL (a b:List AV):Prop:=∀ (B:Nat→Prop) (w:World) (ys:List Value),RelL Tryz.prog NoA B w a NoD ys→RelL Tryz.prog NoA B w b NoD ys
theorem Imp.refl (a:AV):Imp a a:=fun _ _ _ h=>h
theorem ImpL.refl (a:List AV):ImpL a a:=fun _ _ _ h=>h
theorem ImpL.cons {a b:AV} {l m:List AV} (h:Imp a b) (k:ImpL l m):ImpL (a :: l) (b :: m):=fun B w ys hx=>by
 obtain ⟨y,zs,rfl,h1,h2⟩:=hx
 exact ⟨y,zs,rfl,h _ _ _ h1,k _ _ _ h2⟩
theorem Imp.agg {l m:List AV} (k:ImpL l m):Imp (.agg l) (.agg m):=fun B w y hx=>by
 obtain ⟨ys,rfl,h⟩:=hx
 exact ⟨ys,rfl,k _ _ _ h⟩
theorem Imp.tup {l m:List AV} (k:ImpL l m):Imp (.tup l) (.tup m):=fun B w y hx=>by
 obtain ⟨ys,rfl,h⟩:=hx
 exact ⟨ys,rfl,k _ _ _ h⟩
theorem Imp.row {fl:Bool} {t:TypeId} {sz n:Nat} {f:Nat→Nat→AV} (hc:Tryz.prog.cellsOf t=sz) (h:okV sz n f=true):Imp (.lst fl t n f) (.lst false t n (vrow sz (rowV sz n f))):=fun B w y hx=>row_normV hc h hx
theorem entry_at {g:FuncId} {f:TF} (hok:okFn Tryz.prog g=true) (h:∀ args r,f args=some (true,r)→∃ (E:Env) (u d:Nat) (args':List AV) (v:AV),Meets Tryz.prog E.C∧LoopsOk Tryz.prog E∧callA Tryz.prog E u d g args'=some v∧ImpL args args'∧Imp v r):Entry Tryz.prog g f:=by
 intro args r hr B w xs hB hx
 obtain ⟨E,u,d,args',v,hC,hL,h1,h2,h3⟩:=h args r hr
 refine (callA_sound hC hL mixed hok h1 B w xs hB (h2 B w _ hx)).mono ?_
 rintro e w' ⟨y,h4,h5,h6⟩
 exact ⟨y,h4,h5,h3 B w' y h6⟩
theorem rowV_len (sz n:Nat) (f:Nat→Nat→AV):(rowV sz n f).length=n*sz:=by simp [rowV]
theorem okV_vrow (sz n:Nat) (vs:List Value):okV sz n (vrow sz vs)=true:=List.all_eq_true.2 fun i _=>rfl
theorem rowV_vrow {sz n:Nat} {vs:List Value} (h:vs.length=n*sz):rowV sz n (vrow sz vs)=vs:=by
 apply List.ext_getElem?
 intro i
 by_cases hi:i < n*sz
 ·unfold rowV
  rw [List.getElem?_map,List.getElem?_range hi,List.getElem?_eq_getElem (show i < vs.length by omega)]
  show some (vs.getD (i / sz*sz+i % sz) undef)=_
  rw [Nat.div_add_mod',List.getD_eq_getElem?_getD,List.getElem?_eq_getElem (show i < vs.length by omega)];rfl
 ·rw [List.getElem?_eq_none (by rw [rowV_len];omega),List.getElem?_eq_none (by omega)]
theorem first_of {p:Nat→Bool} (n:Nat) (h:(List.range n).any p=true):∃ m,m < n∧(∀ j,j < m→p j=false)∧p m=true:=by
 induction n with
 | zero=>cases h
 | succ n ih=>
  by_cases hn:(List.range n).any p=true
  ·obtain ⟨m,h1,h2,h3⟩:=ih hn
   exact ⟨m,by omega,h2,h3⟩
  ·rw [Bool.not_eq_true,List.any_eq_false] at hn
   rw [List.range_succ,List.any_append,List.any_eq_false.2 hn] at h
   simp only [List.any_cons,List.any_nil,Bool.or_false,Bool.false_or] at h
   exact ⟨n,by omega,fun j hj=>by have:=hn j (List.mem_range.2 hj);rwa [Bool.not_eq_true] at this,h⟩
theorem all_lt {p:Nat→Bool} {n:Nat} (h:(List.range n).all p=true) {j:Nat} (hj:j < n):p j=true:=List.all_eq_true.1 h j (List.mem_range.2 hj)
theorem none_lt {p:Nat→Bool} {n:Nat} (h:¬ (List.range n).any p=true) {j:Nat} (hj:j < n):p j=false:=by
 rw [Bool.not_eq_true,List.any_eq_false] at h
 have:=h j (List.mem_range.2 hj)
 rwa [Bool.not_eq_true] at this
structure Tg where
 okp:Nat→List Value→Bool
 gp:Nat→List Value→Bool
def okpN (n:Nat) (ps:List Value):Bool:=decide (n≤9223372036854775807)&&(List.range n).all (okP ps)
def gpN (n:Nat) (ps:List Value):Bool:=(List.range n).any (grP ps) ||(decide (10 < n)&&decide (n≤1000) ||decide (1005 < n))
def tg0:Tg where
 okp:=okpN
 gp:=gpN
theorem okpN_out {n:Nat} {ps:List Value} (h:tg0.okp n ps=true):n≤9223372036854775807∧∀ j,j < n→okP ps j=true:=by
 have h:(decide _&&(List.range n).all (okP ps))=true:=h
 rw [Bool.and_eq_true,decide_eq_true_eq] at h
 exact ⟨h.1,fun j hj=>all_lt h.2 hj⟩
def tGP (T:Tg):TF:=fun args=>match args with
 | [.lst _ 35 n f]=>some (okV 6 n f&&T.okp n (rowV 6 n f), .val (.bool (T.gp n (rowV 6 n f))))
 | _=>none
theorem gp_call (κ:KT_gp) (φ:FT_gp) (n:Nat) (ps:List Value):callA Tryz.prog ⟨noC,Kall,LL_gp κ φ noL⟩ 10 10 36 [.lst false 35 n (vrow 6 ps)]=
  (bif okV (6:Nat) n (vrow (6:Nat) ps)&&κ n (rowV (6:Nat) n (vrow (6:Nat) ps)) false (0:Int) then (bif decide ((10:Int) < (↑n:Int)) then (bif decide ((↑n:Int)≤(1000:Int)) then some (.val (.bool true)) else some (.val (.bool (decide ((1005:Int) < (↑n:Int)))))) else some (.val (.bool (decide ((1005:Int) < (↑n:Int)))))) else none):=by kernel_rfl
theorem gx_call (κ:KT_gx) (φ:FT_gx) (n:Nat) (ps:List Value):callA Tryz.prog ⟨noC,Kall,LL_gx κ φ noL⟩ 10 10 36 [.lst false 35 n (vrow 6 ps)]=
  (bif okV (6:Nat) n (vrow (6:Nat) ps)&&κ n (rowV (6:Nat) n (vrow (6:Nat) ps)) false (0:Int) then some (.val (.bool ((φ n (rowV (6:Nat) n (vrow (6:Nat) ps)) false (0:Int)).fst))) else none):=by kernel_rfl
theorem eGP:Entry Tryz.prog 36 (tGP tg0):=by
 refine entry_at (by kernel_rfl) (fun args r h=> ?_)
 unfold tGP at h
 split at h
 ·rename_i fl n f
  simp only [Option.some.injEq,Prod.mk.injEq,Bool.and_eq_true] at h
  obtain ⟨⟨h1,h2⟩,rfl⟩:=h
  have hI:ImpL [.lst fl 35 n f] [.lst false 35 n (vrow 6 (rowV 6 n f))]:=ImpL.cons (Imp.row (by kernel_rfl) h1) (ImpL.refl _)
  have hl:=rowV_len 6 n f
  generalize rowV 6 n f=ps at*
  obtain ⟨hn,hp⟩:=okpN_out h2
  by_cases hg:(List.range n).any (grP ps)=true
  ·have hq:pre_gx n ps false 0:= ⟨rfl,hn,hp,first_of n hg⟩
   refine ⟨⟨noC,Kall,LL_gx cond_gx phi_gx noL⟩,10,10,_,_,meets_none _,(LL_gx_ok LOk.none).ok, ?_,hI,Imp.refl _⟩
   have e:tg0.gp n ps=true:=by show gpN n ps=true;unfold gpN;rw [hg];rfl
   have e2:(phi_gx n ps false 0).fst=true:=(phi_gx_spec _ _ _ _ hq).2
   rw [gx_call,okV_vrow,rowV_vrow hl,cond_gx_eq _ _ _ _ hq,e,e2];rfl
  ·have hq:pre_gp n ps false 0:= ⟨rfl,hn,fun j hj=> ⟨hp j hj,by have:=none_lt hg hj;unfold grP at this;rw [Bool.or_eq_false_iff] at this;exact this⟩⟩
   refine ⟨⟨noC,Kall,LL_gp cond_gp phi_gp noL⟩,10,10,_,_,meets_none _,(LL_gp_ok LOk.none).ok, ?_,hI,Imp.refl _⟩
   have e:tg0.gp n ps=(decide (10 < n)&&decide (n≤1000) ||decide (1005 < n)):=by show gpN n ps=_;unfold gpN;rw [Bool.eq_false_iff.2 hg];rfl
   rw [gp_call,okV_vrow,rowV_vrow hl,cond_gp_eq _ _ _ _ hq,e]
   by_cases h3:10 < n
   ·rw [decide_eq_true h3,dT (show (10:Int) < (n:Int) by omega)]
    by_cases h4:n≤1000
    ·rw [decide_eq_true h4,dT (show (n:Int)≤1000 by omega)];rfl
    ·rw [decide_eq_false h4,dF (show ¬ (n:Int)≤1000 by omega)]
     rw [show decide ((1005:Int) < (n:Int))=decide (1005 < n) from decide_eq_decide.2 (by omega)];rfl
   ·rw [decide_eq_false h3,dF (show ¬ (10:Int) < (n:Int) by omega)]
    rw [show decide ((1005:Int) < (n:Int))=decide (1005 < n) from decide_eq_decide.2 (by omega)];rfl
 ·cases h
end
end Go.Proofs.YtamcpiicmfielaaGreat.L
namespace Go.Proofs.YtamcpiicmfielaaGreat.L
open Go Go.V Go.RowKit Go.Proofs.YtamcpiicmfielaaGreat.Sp
open Go.Proofs (Tryz.prog)
noncomputable section
def okQ (ps:List Value) (j:Nat):Bool:=okP ps j&&(hg0.ok (asS (ps.getD (j*6+1) undef)) (asS (ps.getD (j*6+2) undef))&&hg0.ok (asS (ps.getD (j*6+4) undef)) (asS (ps.getD (j*6+5) undef)))
def kvP (ps:List Value) (j:Nat):Int:=hg0.kv (asB (ps.getD (j*6+0) undef)) (asS (ps.getD (j*6+1) undef)) (asS (ps.getD (j*6+2) undef)) (asB (ps.getD (j*6+3) undef)) (asS (ps.getD (j*6+4) undef)) (asS (ps.getD (j*6+5) undef))
def badP (ps:List Value) (j:Nat):Bool:= !decide (kvP ps j=0)
theorem okQ_out {ps:List Value} {j:Nat} (h:okQ ps j=true):(isRat (ps.getD (j*6+0) undef) (ps.getD (j*6+1) undef) (ps.getD (j*6+2) undef)=true∧isRat (ps.getD (j*6+3) undef) (ps.getD (j*6+4) undef) (ps.getD (j*6+5) undef)=true)∧hg0.ok (asS (ps.getD (j*6+1) undef)) (asS (ps.getD (j*6+2) undef))=true∧hg0.ok (asS (ps.getD (j*6+4) undef)) (asS (ps.getD (j*6+5) undef))=true:=by
 unfold okQ at h
 rw [Bool.and_eq_true,Bool.and_eq_true] at h
 exact ⟨okP_out h.1,h.2⟩
end
end Go.Proofs.YtamcpiicmfielaaGreat.L
namespace Go.Proofs.YtamcpiicmfielaaGreat.L
open Go Go.V Go.RowKit Go.Proofs.YtamcpiicmfielaaGreat.Sp
open Go.Proofs (Tryz.prog)
noncomputable section
def qat (vs:List Value) (o:Nat):Rat:=sq0.qv (asB (vs.getD (o+0) undef)) (asS (vs.getD (o+1) undef)) (asS (vs.getD (o+2) undef))
def px (ps:List Value) (j:Nat):Rat:=qat ps (j*6)
def py (ps:List Value) (j:Nat):Rat:=sq0.qv (asB (ps.getD (j*6+3) undef)) (asS (ps.getD (j*6+4) undef)) (asS (ps.getD (j*6+5) undef))
end
end Go.Proofs.YtamcpiicmfielaaGreat.L
