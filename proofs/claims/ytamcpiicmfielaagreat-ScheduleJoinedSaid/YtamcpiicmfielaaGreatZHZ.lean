import Derived.Test.YtamcpiicmfielaaGreatZHX
import Derived.Test.YtamcpiicmfielaaGreatZUA
import Derived.Test.YtamcpiicmfielaaGreatZQA
import Derived.Test.YtamcpiicmfielaaGreatZMD
set_option linter.unusedVariables false
set_option linter.unusedSimpArgs false
namespace Go.Proofs.YtamcpiicmfielaaGreat.L
open Go Go.V Go.RowKit Go.Proofs.YtamcpiicmfielaaGreat.Sp
open Go.Proofs (Tryz.prog)
noncomputable section
def okT (ts:List Value) (j:Nat):Bool:=isRat (ts.getD (j*3+0) undef) (ts.getD (j*3+1) undef) (ts.getD (j*3+2) undef)
def okTs (n:Nat) (ts:List Value):Bool:=decide (n≤9223372036854775807)&&(List.range n).all (okT ts)
theorem okTs_out {n:Nat} {ts:List Value} (h:okTs n ts=true):n≤9223372036854775807∧∀ j,j < n→okT ts j=true:=by
 unfold okTs at h
 rw [Bool.and_eq_true,decide_eq_true_eq] at h
 exact ⟨h.1,fun j hj=>all_lt h.2 hj⟩
end
end Go.Proofs.YtamcpiicmfielaaGreat.L
namespace Go.Proofs.YtamcpiicmfielaaGreat.L
open Go Go.V Go.RowKit Go.Proofs.YtamcpiicmfielaaGreat.Sp
open Go.Proofs (Tryz.prog)
noncomputable section
def EKc (K:Hg) (Z:Qg):Env:= ⟨addC 49 (gR (tQCheck Z)) (addC 57 (gP (tVCheck K)) (addC 23 (gRR (tQCompare Z)) noC)),Kall,noL⟩
def ERkc (K:Hg) (Z:Qg):Env:= ⟨addC 51 (gR (tR1 Z fun b n d=> .val (.int .i64 (Z.ck b n d)))) (addC 58 (gP (tVCheck K)) (addC 48 (gRR (tRCmpQ Z)) noC)),Kall,noL⟩
def okm (n d:BA):Bool:=decide (n.size≤1000)&&decide (d.size≤1000)
theorem okm_out {n d:BA} (h:okm n d=true):n.size≤1000∧d.size≤1000:=by
 unfold okm at h
 rwa [Bool.and_eq_true,decide_eq_true_eq,decide_eq_true_eq] at h
theorem okm_q {n d:BA} (h:okm n d=true):sq0.ok n d=true:=qok_in (by have:=okm_out h;omega) (by have:=okm_out h;omega)
theorem okm_s {n d:BA} (h:okm n d=true):sq0.oks n d=true:=qoks_in (by have:=okm_out h;omega) (by have:=okm_out h;omega)
def okX (ts:List Value) (j:Nat):Bool:=okT ts j&&okm (asS (ts.getD (j*3+1) undef)) (asS (ts.getD (j*3+2) undef))
theorem okX_out {ts:List Value} {j:Nat} (h:okX ts j=true):isRat (ts.getD (j*3+0) undef) (ts.getD (j*3+1) undef) (ts.getD (j*3+2) undef)=true∧okm (asS (ts.getD (j*3+1) undef)) (asS (ts.getD (j*3+2) undef))=true:=by
 unfold okX at h
 rwa [Bool.and_eq_true] at h
def badX (ts:List Value) (j:Nat):Bool:= !decide (sq0.ck (asB (ts.getD (j*3+0) undef)) (asS (ts.getD (j*3+1) undef)) (asS (ts.getD (j*3+2) undef))=0)
def qt (ts:List Value) (j:Nat):Rat:=sq0.qv (asB (ts.getD (j*3+0) undef)) (asS (ts.getD (j*3+1) undef)) (asS (ts.getD (j*3+2) undef))
def ckE (ts ps:List Value) (j:Nat):Int:=if badX ts j=true∨badP ps j=true then 1 else if 0 < j∧0≤sq0.cq (qt ts (j - 1)) (qt ts j) then 8 else 0
def ckL (ts ps:List Value):Nat→Int
 | 0=>0
 | n+1=>if ckL ts ps n=0 then ckE ts ps n else ckL ts ps n
def ckN (n:Nat) (ts:List Value) (m:Nat) (ps:List Value):Int:=if ¬ n=m then 9 else if n=0 then 11 else if 1000 < n then 4 else ckL ts ps n
theorem ckL_zero {ts ps:List Value} {n:Nat} (h:∀ j,j < n→ckE ts ps j=0):ckL ts ps n=0:=by
 induction n with
 | zero=>rfl
 | succ n ih=>
  unfold ckL
  rw [if_pos (ih fun j hj=>h j (by omega))]
  exact h n (by omega)
theorem ckL_err {ts ps:List Value} {k:Nat} (h:∀ j,j < k→ckE ts ps j=0) (hk:¬ ckE ts ps k=0) (d:Nat):ckL ts ps (k+1+d)=ckE ts ps k:=by
 induction d with
 | zero=>
  show ckL ts ps (k+1)=_
  unfold ckL
  rw [if_pos (ckL_zero h)]
 | succ d ih=>
  show ckL ts ps (k+1+d+1)=_
  unfold ckL
  rw [ih,if_neg hk]
theorem ckL_ok {ts ps:List Value} {n:Nat} (h:ckL ts ps n=0):∀ j,j < n→ckE ts ps j=0:=by
 induction n with
 | zero=>intro j hj;omega
 | succ n ih=>
  unfold ckL at h
  by_cases h0:ckL ts ps n=0
  ·rw [if_pos h0] at h
   intro j hj
   by_cases hj2:j=n
   ·subst hj2;exact h
   ·exact ih h0 j (by omega)
  ·rw [if_neg h0] at h
   exact absurd h h0
theorem one_rat {ts:List Value} {j:Nat} (h:okT ts j=true): [vrow 3 ts j 0,vrow 3 ts j 1,vrow 3 ts j 2].all oneA=true:=by
 obtain ⟨h1,h2,h3⟩:=isRat_out h
 unfold vrow
 rw [h1,h2,h3];rfl
theorem ckE_go {ts ps:List Value} {j:Nat} (h:ckE ts ps j=0):sq0.ck (asB (ts.getD (j*3+0) undef)) (asS (ts.getD (j*3+1) undef)) (asS (ts.getD (j*3+2) undef))=0∧kvP ps j=0∧(0 < j→¬ 0≤sq0.cq (qt ts (j - 1)) (qt ts j)):=by
 unfold ckE at h
 split at h
 ·cases h
 ·rename_i h1
  split at h
  ·cases h
  ·rename_i h2
   refine ⟨Classical.not_not.1 fun h3=>h1 (.inl ?_),Classical.not_not.1 fun h3=>h1 (.inr ?_),fun h3 h4=>h2 ⟨h3,h4⟩⟩
   ·unfold badX;rw [decide_eq_false h3];rfl
   ·unfold badP;rw [decide_eq_false h3];rfl
theorem ckE_stop {ts ps:List Value} {j:Nat} (h:¬ ckE ts ps j=0):(¬ sq0.ck (asB (ts.getD (j*3+0) undef)) (asS (ts.getD (j*3+1) undef)) (asS (ts.getD (j*3+2) undef))=0∧ckE ts ps j=1)∨
  (sq0.ck (asB (ts.getD (j*3+0) undef)) (asS (ts.getD (j*3+1) undef)) (asS (ts.getD (j*3+2) undef))=0∧¬ kvP ps j=0∧ckE ts ps j=1)∨
  (sq0.ck (asB (ts.getD (j*3+0) undef)) (asS (ts.getD (j*3+1) undef)) (asS (ts.getD (j*3+2) undef))=0∧kvP ps j=0∧0 < j∧0≤sq0.cq (qt ts (j - 1)) (qt ts j)∧ckE ts ps j=8):=by
 by_cases h1:sq0.ck (asB (ts.getD (j*3+0) undef)) (asS (ts.getD (j*3+1) undef)) (asS (ts.getD (j*3+2) undef))=0
 ·by_cases h2:kvP ps j=0
  ·have hn:¬ (badX ts j=true∨badP ps j=true):=by
    unfold badX badP
    rw [decide_eq_true h1,decide_eq_true h2]
    exact fun h=>h.elim (fun h=>by cases h) (fun h=>by cases h)
   by_cases h3:0 < j∧0≤sq0.cq (qt ts (j - 1)) (qt ts j)
   ·exact .inr (.inr ⟨h1,h2,h3.1,h3.2,by unfold ckE;rw [if_neg hn,if_pos h3]⟩)
   ·exact absurd (by unfold ckE;rw [if_neg hn,if_neg h3]) h
  ·exact .inr (.inl ⟨h1,h2,by unfold ckE;rw [if_pos (.inr (by unfold badP;rw [decide_eq_false h2];rfl))]⟩)
 ·exact .inl ⟨h1,by unfold ckE;rw [if_pos (.inl (by unfold badX;rw [decide_eq_false h1];rfl))]⟩
abbrev p_kc:List Bool:= [false,true,false,true,true]
def sh_kc (er:Int) (n1:Nat) (ts1:List Value) (n2:Int) (i:Int) (n:Nat) (ts:List Value) (m:Nat) (ps:List Value):List AV:=slots 57 [(1, .ptr 0 0),(2, .val (.int .i64 er)),(24, .lst false 27 n1 (vrow 3 ts1)),(25, .val (.int .i64 n2)),(26, .val (.int .i64 i))]
def hp_kc (er:Int) (n1:Nat) (ts1:List Value) (n2:Int) (i:Int) (n:Nat) (ts:List Value) (m:Nat) (ps:List Value):Hp:= [.row (.cells [.lst false 27 n (vrow 3 ts), .lst false 35 m (vrow 6 ps)]) 25 .live]
theorem body_kc:subC Tryz.prog 18 p_kc=some (.loop (lb 18 p_kc)):=by kernel_rfl
theorem code_kc:subC Tryz.prog 18 (false :: p_kc)=some (lb 18 p_kc):=by kernel_rfl
theorem round_kc (K:Hg) (Z:Qg) (er:Int) (n1:Nat) (ts1:List Value) (n2:Int) (i:Int) (n:Nat) (ts:List Value) (m:Nat) (ps:List Value):letI q_1:Option (Ex×List AV×Hp):=(bif inR IntKind.i64 (i+(1:Int)) then some (.normal,slots 57 [(1,(.ptr 0 0)),(2,(.val (.int .i64 er))),(24,(.lst false 27 n1 (vrow (3:Nat) ts1))),(25,(.val (.int .i64 n2))),(26,(.val (.int .i64 (i+(1:Int)))))], [(.row (.cells [(.lst false 27 n (vrow (3:Nat) ts)),(.lst false 35 m (vrow (6:Nat) ps))]) 25 .live)]) else none);letI q_2:=(ts1.getD (i.toNat*(3:Nat)+(1:Nat)) undef);letI q_3:=(ts1.getD (i.toNat*(3:Nat)+(2:Nat)) undef);letI q_4:=(ts1.getD (i.toNat*(3:Nat)+(0:Nat)) undef);letI q_5:=(ts.getD ((i - (1:Int)).toNat*(3:Nat)+(1:Nat)) undef);letI q_6:=(ts.getD ((i - (1:Int)).toNat*(3:Nat)+(2:Nat)) undef);letI q_7:=(ps.getD (i.toNat*(6:Nat)+(1:Nat)) undef);letI q_8:=(ps.getD (i.toNat*(6:Nat)+(2:Nat)) undef);letI q_9:=(ps.getD (i.toNat*(6:Nat)+(4:Nat)) undef);letI q_10:=(ps.getD (i.toNat*(6:Nat)+(5:Nat)) undef);
  (roundA Tryz.prog (EKc K Z) 18 [1,2,24,25,26] (lb 18 p_kc) (false :: p_kc) (sh_kc er n1 ts1 n2 i n ts m ps) (hp_kc er n1 ts1 n2 i n ts m ps)=(bif decide (i < n2) then (bif decide ((0:Int)≤i)&&decide (i < (↑n1:Int)) then (bif [(fun q=>vrow (3:Nat) ts1 i.toNat ((0:Nat)+q)) (nat_lit 0),(fun q=>vrow (3:Nat) ts1 i.toNat ((0:Nat)+q)) (nat_lit 1),(fun q=>vrow (3:Nat) ts1 i.toNat ((0:Nat)+q)) (nat_lit 2)].all oneA then (bif isRat q_4 q_2 q_3&&Z.ok (asS q_2) (asS q_3) then (bif !decide (Z.ck (asB q_4) (asS q_2) (asS q_3)=(0:Int)) then some (.ret,slots 57 [(1,(.ptr 0 0)),(2,(.val (.int .i64 1))),(24,(.lst false 27 n1 (vrow (3:Nat) ts1))),(25,(.val (.int .i64 n2))),(26,(.val (.int .i64 i)))], [(.row (.cells [(.lst false 27 n (vrow (3:Nat) ts)),(.lst false 35 m (vrow (6:Nat) ps))]) 25 .live)]) else (bif decide ((0:Int)≤i)&&decide (i < (↑m:Int)) then (bif isRat (ps.getD (i.toNat*(6:Nat)+(0:Nat)) undef) q_7 q_8&&isRat (ps.getD (i.toNat*(6:Nat)+(3:Nat)) undef) q_9 q_10&&(K.ok (asS q_7) (asS q_8)&&K.ok (asS q_9) (asS q_10)) then (bif !decide (K.kv (asB (ps.getD (i.toNat*(6:Nat)+(0:Nat)) undef)) (asS q_7) (asS q_8) (asB (ps.getD (i.toNat*(6:Nat)+(3:Nat)) undef)) (asS q_9) (asS q_10)=(0:Int)) then some (.ret,slots 57 [(1,(.ptr 0 0)),(2,(.val (.int .i64 1))),(24,(.lst false 27 n1 (vrow (3:Nat) ts1))),(25,(.val (.int .i64 n2))),(26,(.val (.int .i64 i)))], [(.row (.cells [(.lst false 27 n (vrow (3:Nat) ts)),(.lst false 35 m (vrow (6:Nat) ps))]) 25 .live)]) else (bif decide ((0:Int) < i) then (bif inR IntKind.i64 (i - (1:Int)) then (bif decide ((0:Int)≤i - (1:Int))&&decide (i - (1:Int) < (↑n:Int)) then (bif isRat (ts.getD ((i - (1:Int)).toNat*(3:Nat)+(0:Nat)) undef) q_5 q_6&&isRat q_4 q_2 q_3&&(Z.ok (asS q_5) (asS q_6)&&Z.ok (asS q_2) (asS q_3)) then (bif decide ((0:Int)≤Z.cq (Z.qv (asB (ts.getD ((i - (1:Int)).toNat*(3:Nat)+(0:Nat)) undef)) (asS q_5) (asS q_6)) (Z.qv (asB q_4) (asS q_2) (asS q_3))) then some (.ret,slots 57 [(1,(.ptr 0 0)),(2,(.val (.int .i64 8))),(24,(.lst false 27 n1 (vrow (3:Nat) ts1))),(25,(.val (.int .i64 n2))),(26,(.val (.int .i64 i)))], [(.row (.cells [(.lst false 27 n (vrow (3:Nat) ts)),(.lst false 35 m (vrow (6:Nat) ps))]) 25 .live)]) else q_1) else none) else none) else none) else q_1)) else none) else none)) else none) else none) else none) else some ((.exit 1),slots 57 [(1,(.ptr 0 0)),(2,(.val (.int .i64 er))),(24,(.lst false 27 n1 (vrow (3:Nat) ts1))),(25,(.val (.int .i64 n2))),(26,(.val (.int .i64 i)))], [(.row (.cells [(.lst false 27 n (vrow (3:Nat) ts)),(.lst false 35 m (vrow (6:Nat) ps))]) 25 .live)]))):=by kernel_rfl
theorem step_kc {er:Int} {n1:Nat} {ts1:List Value} {n2:Int} {i:Int} {n:Nat} {ts:List Value} {m:Nat} {ps:List Value} {e:Ex} {T:List AV} {H:Hp} (h:roundA Tryz.prog (EKc hg0 sq0) 18 [1,2,24,25,26] (lb 18 p_kc) (false :: p_kc) (sh_kc er n1 ts1 n2 i n ts m ps) (hp_kc er n1 ts1 n2 i n ts m ps)=some (e,T,H)):V.Ends Tryz.prog false 0 0 (lb 18 p_kc) (sh_kc er n1 ts1 n2 i n ts m ps) (hp_kc er n1 ts1 n2 i n ts m ps) e T H:=
 round_ends ((((meets_none _).add eQCompare.gRR).add eVCheck.gP).add eQCheck.gR) loops_none mixed code_kc h
section
variable {n : Nat} {ts ps : List Value} {er : Int}
theorem kc_step (i:Nat) (hi:i < n) (hn:n≤1000) (hx:∀ j,j < n→okX ts j=true) (hp:∀ j,j < n→okQ ps j=true) (h:ckE ts ps i=0):V.Ends Tryz.prog false 0 0 (lb 18 p_kc) (sh_kc er n ts (n:Int) i n ts n ps) (hp_kc er n ts (n:Int) i n ts n ps) .normal (sh_kc er n ts (n:Int) ((i+1:Nat):Int) n ts n ps) (hp_kc er n ts (n:Int) ((i+1:Nat):Int) n ts n ps):=by
 obtain ⟨g1,g2,g3⟩:=ckE_go h
 obtain ⟨a1,a2⟩:=okX_out (hx i hi)
 obtain ⟨⟨b1,b2⟩,b3,b4⟩:=okQ_out (hp i hi)
 have hr:=round_kc hg0 sq0 er n ts (n:Int) i n ts n ps
 simp only [Int.toNat_natCast,Nat.zero_add] at hr
 rw [dT (show (i:Int) < (n:Int) by omega),dT (show (0:Int)≤(i:Int) by omega),one_rat (show okT ts i=true from a1),a1,okm_q a2] at hr
 rw [dT g1,b1,b2,b3,b4,dT (show hg0.kv (asB (ps.getD (i*6+0) undef)) (asS (ps.getD (i*6+1) undef)) (asS (ps.getD (i*6+2) undef)) (asB (ps.getD (i*6+3) undef)) (asS (ps.getD (i*6+4) undef)) (asS (ps.getD (i*6+5) undef))=0 from g2)] at hr
 by_cases h0:i=0
 ·subst h0
  exact step_kc hr
 ·have g4:=g3 (by omega)
  obtain ⟨j,rfl⟩:∃ j,i=j+1:= ⟨i - 1,by omega⟩
  obtain ⟨c1,c2⟩:=okX_out (hx j (by omega))
  have e1:((j+1:Nat):Int) - 1=(j:Int):=by omega
  simp only [e1,Int.toNat_natCast] at hr
  rw [dT (show (0:Int) < ((j+1:Nat):Int) by omega),i64T (z:=(j:Int)) (by omega),dT (show (0:Int)≤(j:Int) by omega),dT (show (j:Int) < (n:Int) by omega),c1,okm_q c2,i64T (z:=((j+1:Nat):Int)+1) (by omega)] at hr
  have g5:¬ 0≤sq0.cq (sq0.qv (asB (ts.getD (j*3+0) undef)) (asS (ts.getD (j*3+1) undef)) (asS (ts.getD (j*3+2) undef))) (sq0.qv (asB (ts.getD ((j+1)*3+0) undef)) (asS (ts.getD ((j+1)*3+1) undef)) (asS (ts.getD ((j+1)*3+2) undef))):=g4
  rw [dF g5] at hr
  exact step_kc hr
theorem kc_stop (i:Nat) (hi:i < n) (hn:n≤1000) (hx:∀ j,j < n→okX ts j=true) (hp:∀ j,j < n→okQ ps j=true) (h:¬ ckE ts ps i=0):V.Ends Tryz.prog false 0 0 (lb 18 p_kc) (sh_kc er n ts (n:Int) i n ts n ps) (hp_kc er n ts (n:Int) i n ts n ps) .ret (sh_kc (ckE ts ps i) n ts (n:Int) i n ts n ps) (hp_kc (ckE ts ps i) n ts (n:Int) i n ts n ps):=by
 obtain ⟨a1,a2⟩:=okX_out (hx i hi)
 obtain ⟨⟨b1,b2⟩,b3,b4⟩:=okQ_out (hp i hi)
 have hr:=round_kc hg0 sq0 er n ts (n:Int) i n ts n ps
 simp only [Int.toNat_natCast,Nat.zero_add] at hr
 rw [dT (show (i:Int) < (n:Int) by omega),dT (show (0:Int)≤(i:Int) by omega),one_rat (show okT ts i=true from a1),a1,okm_q a2] at hr
 rcases ckE_stop h with ⟨g1,ge⟩ | ⟨g1,g2,ge⟩ | ⟨g1,g2,g3,g4,ge⟩ <;> rw [ge]
 ·rw [dF g1] at hr
  exact step_kc hr
 ·rw [dT g1,b1,b2,b3,b4,dF (show ¬ hg0.kv (asB (ps.getD (i*6+0) undef)) (asS (ps.getD (i*6+1) undef)) (asS (ps.getD (i*6+2) undef)) (asB (ps.getD (i*6+3) undef)) (asS (ps.getD (i*6+4) undef)) (asS (ps.getD (i*6+5) undef))=0 from g2)] at hr
  exact step_kc hr
 ·rw [dT g1,b1,b2,b3,b4,dT (show hg0.kv (asB (ps.getD (i*6+0) undef)) (asS (ps.getD (i*6+1) undef)) (asS (ps.getD (i*6+2) undef)) (asB (ps.getD (i*6+3) undef)) (asS (ps.getD (i*6+4) undef)) (asS (ps.getD (i*6+5) undef))=0 from g2)] at hr
  obtain ⟨j,rfl⟩:∃ j,i=j+1:= ⟨i - 1,by omega⟩
  obtain ⟨c1,c2⟩:=okX_out (hx j (by omega))
  have e1:((j+1:Nat):Int) - 1=(j:Int):=by omega
  simp only [e1,Int.toNat_natCast] at hr
  rw [dT (show (0:Int) < ((j+1:Nat):Int) by omega),i64T (z:=(j:Int)) (by omega),dT (show (0:Int)≤(j:Int) by omega),dT (show (j:Int) < (n:Int) by omega),c1,okm_q c2] at hr
  have g5:0≤sq0.cq (sq0.qv (asB (ts.getD (j*3+0) undef)) (asS (ts.getD (j*3+1) undef)) (asS (ts.getD (j*3+2) undef))) (sq0.qv (asB (ts.getD ((j+1)*3+0) undef)) (asS (ts.getD ((j+1)*3+1) undef)) (asS (ts.getD ((j+1)*3+2) undef))):=g4
  rw [dT g5] at hr
  exact step_kc hr
theorem kc_go (hn:n≤1000) (hx:∀ j,j < n→okX ts j=true) (hp:∀ j,j < n→okQ ps j=true) (h:∀ j,j < n→ckE ts ps j=0) (k:Nat):∀ i:Nat,n=i+k→LoopTo Tryz.prog (lb 18 p_kc) (sh_kc er n ts (n:Int) i n ts n ps) (hp_kc er n ts (n:Int) i n ts n ps) (.exit 1) (sh_kc er n ts (n:Int) n n ts n ps) (hp_kc er n ts (n:Int) n n ts n ps):=by
 induction k with
 | zero=>
  intro i hi
  have:i=n:=by omega
  subst this
  refine .last (step_kc ?_) (by intro h;cases h)
  rw [round_kc,dF (show ¬ ((i:Nat):Int) < (i:Int) by omega)]
  rfl
 | succ k ih=>
  intro i hi
  exact .more (kc_step i (by omega) hn hx hp (h i (by omega))) (ih (i+1) (by omega))
theorem ky_go (hn:n≤1000) (hx:∀ j,j < n→okX ts j=true) (hp:∀ j,j < n→okQ ps j=true) (q:Nat) (hq:q < n) (h:∀ j,j < q→ckE ts ps j=0) (he:¬ ckE ts ps q=0) (k:Nat):∀ i:Nat,q=i+k→LoopTo Tryz.prog (lb 18 p_kc) (sh_kc er n ts (n:Int) i n ts n ps) (hp_kc er n ts (n:Int) i n ts n ps) .ret (sh_kc (ckE ts ps q) n ts (n:Int) q n ts n ps) (hp_kc (ckE ts ps q) n ts (n:Int) q n ts n ps):=by
 induction k with
 | zero=>
  intro i hi
  have:i=q:=by omega
  subst this
  exact .last (kc_stop i hq hn hx hp he) (by intro h;cases h)
 | succ k ih=>
  intro i hi
  exact .more (kc_step i (by omega) hn hx hp (h i (by omega))) (ih (i+1) (by omega))
end
def pre_kc (er:Int) (n1:Nat) (ts1:List Value) (n2 i:Int) (n:Nat) (ts:List Value) (m:Nat) (ps:List Value):Prop:=n=n1∧ts=ts1∧n2=(n:Int)∧n=m∧i=0∧n≤1000∧(∀ j,j < n→okX ts j=true)∧(∀ j,j < n→okQ ps j=true)∧∀ j,j < n→ckE ts ps j=0
def post_kc (er:Int) (n1:Nat) (ts1:List Value) (n2 i:Int) (n:Nat) (ts:List Value) (m:Nat) (ps:List Value) (ρ:Int):Prop:=True
theorem loop_kc (er:Int) (n1:Nat) (ts1:List Value) (n2 i:Int) (n:Nat) (ts:List Value) (m:Nat) (ps:List Value) (h:pre_kc er n1 ts1 n2 i n ts m ps):∃ ρ:Int,LoopTo Tryz.prog (lb 18 p_kc) (sh_kc er n1 ts1 n2 i n ts m ps) (hp_kc er n1 ts1 n2 i n ts m ps) (.exit 1) (sh_kc er n1 ts1 n2 ρ n ts m ps) (hp_kc er n1 ts1 n2 ρ n ts m ps)∧post_kc er n1 ts1 n2 i n ts m ps ρ:=by
 obtain ⟨rfl,rfl,rfl,rfl,rfl,hn,hx,hp,h⟩:=h
 exact ⟨_,kc_go hn hx hp h _ 0 (Nat.zero_add _).symm,trivial⟩
def told_kc (κ:Int→Nat→List Value→Int→Int→Nat→List Value→Nat→List Value→Bool) (φ:Int→Nat→List Value→Int→Int→Nat→List Value→Nat→List Value→Int) (T:List AV) (H:Hp):Option (Bool×Ex×List AV×Hp):=
 match lget T 1,lget T 2,lget T 24,lget T 25,lget T 26,H with
 | .ptr 0 0, .val (.int .i64 er), .lst false 27 n1 f_ts1, .val (.int .i64 n2), .val (.int .i64 i), [.row (.cells [.lst false 27 n f_ts, .lst false 35 m f_ps]) 25 .live]=>bif T.length==57 then some (okV 3 n1 f_ts1&&okV 3 n f_ts&&okV 6 m f_ps&&κ er n1 (rowV 3 n1 f_ts1) n2 i n (rowV 3 n f_ts) m (rowV 6 m f_ps), .exit 1,sh_kc er n1 (rowV 3 n1 f_ts1) n2 ((φ er n1 (rowV 3 n1 f_ts1) n2 i n (rowV 3 n f_ts) m (rowV 6 m f_ps))) n (rowV 3 n f_ts) m (rowV 6 m f_ps),hp_kc er n1 (rowV 3 n1 f_ts1) n2 ((φ er n1 (rowV 3 n1 f_ts1) n2 i n (rowV 3 n f_ts) m (rowV 6 m f_ps))) n (rowV 3 n f_ts) m (rowV 6 m f_ps)) else none
 | _,_,_,_,_,_=>none
abbrev KT_kc:Type:=Int→Nat→List Value→Int→Int→Nat→List Value→Nat→List Value→Bool
abbrev FT_kc:Type:=Int→Nat→List Value→Int→Int→Nat→List Value→Nat→List Value→Int
def LL_kc (κ:KT_kc) (φ:FT_kc) (L:LTab):LTab:=addLn 0 18 p_kc [1,2,24,25,26] (told_kc κ φ) L
def phi_kc (er:Int) (n1:Nat) (ts1:List Value) (n2:Int) (i:Int) (n:Nat) (ts:List Value) (m:Nat) (ps:List Value):Int:=Classical.epsilon fun ρ=>LoopTo Tryz.prog (lb 18 p_kc) (sh_kc er n1 ts1 n2 i n ts m ps) (hp_kc er n1 ts1 n2 i n ts m ps) (.exit 1) (sh_kc er n1 ts1 n2 (ρ) n ts m ps) (hp_kc er n1 ts1 n2 (ρ) n ts m ps)∧post_kc er n1 ts1 n2 i n ts m ps ρ
theorem phi_kc_spec (er:Int) (n1:Nat) (ts1:List Value) (n2:Int) (i:Int) (n:Nat) (ts:List Value) (m:Nat) (ps:List Value) (h:pre_kc er n1 ts1 n2 i n ts m ps):LoopTo Tryz.prog (lb 18 p_kc) (sh_kc er n1 ts1 n2 i n ts m ps) (hp_kc er n1 ts1 n2 i n ts m ps) (.exit 1) (sh_kc er n1 ts1 n2 ((phi_kc er n1 ts1 n2 i n ts m ps)) n ts m ps) (hp_kc er n1 ts1 n2 ((phi_kc er n1 ts1 n2 i n ts m ps)) n ts m ps)∧post_kc er n1 ts1 n2 i n ts m ps (phi_kc er n1 ts1 n2 i n ts m ps):=Classical.epsilon_spec (loop_kc er n1 ts1 n2 i n ts m ps h)
def cond_kc (er:Int) (n1:Nat) (ts1:List Value) (n2:Int) (i:Int) (n:Nat) (ts:List Value) (m:Nat) (ps:List Value):Bool:= @decide (pre_kc er n1 ts1 n2 i n ts m ps) (Classical.propDecidable _)
theorem cond_kc_eq (er:Int) (n1:Nat) (ts1:List Value) (n2:Int) (i:Int) (n:Nat) (ts:List Value) (m:Nat) (ps:List Value) (h:pre_kc er n1 ts1 n2 i n ts m ps):cond_kc er n1 ts1 n2 i n ts m ps=true:= @decide_eq_true _ (Classical.propDecidable _) h
theorem told_kc_ok (T:List AV) (H:Hp) (e:Ex) (T1:List AV) (H1:Hp) (h:told_kc cond_kc phi_kc T H=some (true,e,T1,H1)):V.Ends Tryz.prog false 0 0 (.loop (lb 18 p_kc)) T H e T1 H1:=by
 unfold told_kc at h
 split at h
 ·rename_i er n1 f_ts1 n2 i n f_ts m f_ps h1 h2 h24 h25 h26
  rw [Bool.cond_eq_ite] at h
  split at h
  ·rename_i hlen
   rw [beq_iff_eq] at hlen
   simp only [Option.some.injEq,Prod.mk.injEq,Bool.and_eq_true,decide_eq_true_eq] at h
   obtain ⟨⟨⟨⟨k1,k2⟩,k3⟩,k4⟩,rfl,rfl,rfl⟩:=h
   have kc:= @of_decide_eq_true _ (Classical.propDecidable _) k4
   refine Ends.pre (Ends.preH (phi_kc_spec er n1 (rowV 3 n1 f_ts1) n2 i n (rowV 3 n f_ts) m (rowV 6 m f_ps) kc).1.ends (sameH.cons ⟨⟨rfl,fun _ _ _ _ _ hh=>rel_trj (by kernel_rfl) (by kernel_rfl) k2 k3 hh⟩,rfl,rfl⟩ sameH.nil)) (fun α B w D ys hr=>slots_rel hlen (fun p hp y hy=> ?_) hr)
   simp only [List.mem_cons,List.not_mem_nil,or_false] at hp
   rcases hp with rfl | rfl | rfl | rfl | rfl
   ·rw [h1] at hy;exact hy
   ·rw [h2] at hy;exact hy
   ·rw [h24] at hy;exact row_normV (by kernel_rfl) k1 hy
   ·rw [h25] at hy;exact hy
   ·rw [h26] at hy;exact hy
  ·cases h
 ·cases h
theorem LL_kc_ok {L:LTab} (h:LOk Tryz.prog L):LOk Tryz.prog (LL_kc cond_kc phi_kc L):=h.add2n body_kc told_kc_ok
abbrev p_ky:List Bool:= [false,true,false,true,true]
def sh_ky (er:Int) (n1:Nat) (ts1:List Value) (n2:Int) (i:Int) (n:Nat) (ts:List Value) (m:Nat) (ps:List Value):List AV:=slots 57 [(1, .ptr 0 0),(2, .val (.int .i64 er)),(24, .lst false 27 n1 (vrow 3 ts1)),(25, .val (.int .i64 n2)),(26, .val (.int .i64 i))]
def hp_ky (er:Int) (n1:Nat) (ts1:List Value) (n2:Int) (i:Int) (n:Nat) (ts:List Value) (m:Nat) (ps:List Value):Hp:= [.row (.cells [.lst false 27 n (vrow 3 ts), .lst false 35 m (vrow 6 ps)]) 25 .live]
theorem body_ky:subC Tryz.prog 18 p_ky=some (.loop (lb 18 p_ky)):=by kernel_rfl
def pre_ky (er:Int) (n1:Nat) (ts1:List Value) (n2 i:Int) (n:Nat) (ts:List Value) (m:Nat) (ps:List Value):Prop:=n=n1∧ts=ts1∧n2=(n:Int)∧n=m∧i=0∧n≤1000∧(∀ j,j < n→okX ts j=true)∧(∀ j,j < n→okQ ps j=true)∧∃ q,q < n∧(∀ j,j < q→ckE ts ps j=0)∧¬ ckE ts ps q=0
def post_ky (er:Int) (n1:Nat) (ts1:List Value) (n2 i:Int) (n:Nat) (ts:List Value) (m:Nat) (ps:List Value) (ρ:Int×Int):Prop:=ρ.1=ckL ts ps n
theorem loop_ky (er:Int) (n1:Nat) (ts1:List Value) (n2 i:Int) (n:Nat) (ts:List Value) (m:Nat) (ps:List Value) (h:pre_ky er n1 ts1 n2 i n ts m ps):∃ ρ:Int×Int,LoopTo Tryz.prog (lb 18 p_ky) (sh_ky er n1 ts1 n2 i n ts m ps) (hp_ky er n1 ts1 n2 i n ts m ps) .ret (sh_ky ρ.1 n1 ts1 n2 ρ.2 n ts m ps) (hp_ky ρ.1 n1 ts1 n2 ρ.2 n ts m ps)∧post_ky er n1 ts1 n2 i n ts m ps ρ:=by
 obtain ⟨rfl,rfl,rfl,rfl,rfl,hn,hx,hp,q,hq,h,he⟩:=h
 have e:=ckL_err h he (n - (q+1))
 rw [show q+1+(n - (q+1))=n by omega] at e
 exact ⟨(ckE ts ps q,(q:Int)),ky_go hn hx hp q hq h he q 0 (by omega),e.symm⟩
def told_ky (κ:Int→Nat→List Value→Int→Int→Nat→List Value→Nat→List Value→Bool) (φ:Int→Nat→List Value→Int→Int→Nat→List Value→Nat→List Value→Int×Int) (T:List AV) (H:Hp):Option (Bool×Ex×List AV×Hp):=
 match lget T 1,lget T 2,lget T 24,lget T 25,lget T 26,H with
 | .ptr 0 0, .val (.int .i64 er), .lst false 27 n1 f_ts1, .val (.int .i64 n2), .val (.int .i64 i), [.row (.cells [.lst false 27 n f_ts, .lst false 35 m f_ps]) 25 .live]=>bif T.length==57 then some (okV 3 n1 f_ts1&&okV 3 n f_ts&&okV 6 m f_ps&&κ er n1 (rowV 3 n1 f_ts1) n2 i n (rowV 3 n f_ts) m (rowV 6 m f_ps), .ret,sh_ky ((φ er n1 (rowV 3 n1 f_ts1) n2 i n (rowV 3 n f_ts) m (rowV 6 m f_ps)).1) n1 (rowV 3 n1 f_ts1) n2 ((φ er n1 (rowV 3 n1 f_ts1) n2 i n (rowV 3 n f_ts) m (rowV 6 m f_ps)).2) n (rowV 3 n f_ts) m (rowV 6 m f_ps),hp_ky ((φ er n1 (rowV 3 n1 f_ts1) n2 i n (rowV 3 n f_ts) m (rowV 6 m f_ps)).1) n1 (rowV 3 n1 f_ts1) n2 ((φ er n1 (rowV 3 n1 f_ts1) n2 i n (rowV 3 n f_ts) m (rowV 6 m f_ps)).2) n (rowV 3 n f_ts) m (rowV 6 m f_ps)) else none
 | _,_,_,_,_,_=>none
abbrev KT_ky:Type:=Int→Nat→List Value→Int→Int→Nat→List Value→Nat→List Value→Bool
abbrev FT_ky:Type:=Int→Nat→List Value→Int→Int→Nat→List Value→Nat→List Value→Int×Int
def LL_ky (κ:KT_ky) (φ:FT_ky) (L:LTab):LTab:=addLn 0 18 p_ky [1,2,24,25,26] (told_ky κ φ) L
def phi_ky (er:Int) (n1:Nat) (ts1:List Value) (n2:Int) (i:Int) (n:Nat) (ts:List Value) (m:Nat) (ps:List Value):Int×Int:=Classical.epsilon fun ρ=>LoopTo Tryz.prog (lb 18 p_ky) (sh_ky er n1 ts1 n2 i n ts m ps) (hp_ky er n1 ts1 n2 i n ts m ps) (.ret) (sh_ky (ρ.1) n1 ts1 n2 (ρ.2) n ts m ps) (hp_ky (ρ.1) n1 ts1 n2 (ρ.2) n ts m ps)∧post_ky er n1 ts1 n2 i n ts m ps ρ
theorem phi_ky_spec (er:Int) (n1:Nat) (ts1:List Value) (n2:Int) (i:Int) (n:Nat) (ts:List Value) (m:Nat) (ps:List Value) (h:pre_ky er n1 ts1 n2 i n ts m ps):LoopTo Tryz.prog (lb 18 p_ky) (sh_ky er n1 ts1 n2 i n ts m ps) (hp_ky er n1 ts1 n2 i n ts m ps) (.ret) (sh_ky ((phi_ky er n1 ts1 n2 i n ts m ps).1) n1 ts1 n2 ((phi_ky er n1 ts1 n2 i n ts m ps).2) n ts m ps) (hp_ky ((phi_ky er n1 ts1 n2 i n ts m ps).1) n1 ts1 n2 ((phi_ky er n1 ts1 n2 i n ts m ps).2) n ts m ps)∧post_ky er n1 ts1 n2 i n ts m ps (phi_ky er n1 ts1 n2 i n ts m ps):=Classical.epsilon_spec (loop_ky er n1 ts1 n2 i n ts m ps h)
def cond_ky (er:Int) (n1:Nat) (ts1:List Value) (n2:Int) (i:Int) (n:Nat) (ts:List Value) (m:Nat) (ps:List Value):Bool:= @decide (pre_ky er n1 ts1 n2 i n ts m ps) (Classical.propDecidable _)
theorem cond_ky_eq (er:Int) (n1:Nat) (ts1:List Value) (n2:Int) (i:Int) (n:Nat) (ts:List Value) (m:Nat) (ps:List Value) (h:pre_ky er n1 ts1 n2 i n ts m ps):cond_ky er n1 ts1 n2 i n ts m ps=true:= @decide_eq_true _ (Classical.propDecidable _) h
theorem told_ky_ok (T:List AV) (H:Hp) (e:Ex) (T1:List AV) (H1:Hp) (h:told_ky cond_ky phi_ky T H=some (true,e,T1,H1)):V.Ends Tryz.prog false 0 0 (.loop (lb 18 p_ky)) T H e T1 H1:=by
 unfold told_ky at h
 split at h
 ·rename_i er n1 f_ts1 n2 i n f_ts m f_ps h1 h2 h24 h25 h26
  rw [Bool.cond_eq_ite] at h
  split at h
  ·rename_i hlen
   rw [beq_iff_eq] at hlen
   simp only [Option.some.injEq,Prod.mk.injEq,Bool.and_eq_true,decide_eq_true_eq] at h
   obtain ⟨⟨⟨⟨k1,k2⟩,k3⟩,k4⟩,rfl,rfl,rfl⟩:=h
   have kc:= @of_decide_eq_true _ (Classical.propDecidable _) k4
   refine Ends.pre (Ends.preH (phi_ky_spec er n1 (rowV 3 n1 f_ts1) n2 i n (rowV 3 n f_ts) m (rowV 6 m f_ps) kc).1.ends (sameH.cons ⟨⟨rfl,fun _ _ _ _ _ hh=>rel_trj (by kernel_rfl) (by kernel_rfl) k2 k3 hh⟩,rfl,rfl⟩ sameH.nil)) (fun α B w D ys hr=>slots_rel hlen (fun p hp y hy=> ?_) hr)
   simp only [List.mem_cons,List.not_mem_nil,or_false] at hp
   rcases hp with rfl | rfl | rfl | rfl | rfl
   ·rw [h1] at hy;exact hy
   ·rw [h2] at hy;exact hy
   ·rw [h24] at hy;exact row_normV (by kernel_rfl) k1 hy
   ·rw [h25] at hy;exact hy
   ·rw [h26] at hy;exact hy
  ·cases h
 ·cases h
theorem LL_ky_ok {L:LTab} (h:LOk Tryz.prog L):LOk Tryz.prog (LL_ky cond_ky phi_ky L):=h.add2n body_ky told_ky_ok
abbrev p_jc:List Bool:= [false,true,false,true,true,true,true]
def sh_jc (er:Int) (i:Int) (n:Nat) (ts:List Value) (m:Nat) (ps:List Value):List AV:=slots 59 [(1, .ptr 0 0),(2, .val (.int .i64 er)),(3, .val (.int .i64 i))]
def hp_jc (er:Int) (i:Int) (n:Nat) (ts:List Value) (m:Nat) (ps:List Value):Hp:= [.row (.cells [.lst false 27 n (vrow 3 ts), .lst false 35 m (vrow 6 ps)]) 25 .live]
theorem body_jc:subC Tryz.prog 19 p_jc=some (.loop (lb 19 p_jc)):=by kernel_rfl
theorem code_jc:subC Tryz.prog 19 (false :: p_jc)=some (lb 19 p_jc):=by kernel_rfl
theorem round_jc (K:Hg) (Z:Qg) (er:Int) (i:Int) (n:Nat) (ts:List Value) (m:Nat) (ps:List Value):letI q_1:Option (Ex×List AV×Hp):=(bif inR IntKind.i64 (i+(1:Int)) then some (.normal,slots 59 [(1,(.ptr 0 0)),(2,(.val (.int .i64 er))),(3,(.val (.int .i64 (i+(1:Int)))))], [(.row (.cells [(.lst false 27 n (vrow (3:Nat) ts)),(.lst false 35 m (vrow (6:Nat) ps))]) 25 .live)]) else none);letI q_2:=(ts.getD (i.toNat*(3:Nat)+(1:Nat)) undef);letI q_3:=(ts.getD (i.toNat*(3:Nat)+(2:Nat)) undef);letI q_4:=(ts.getD (i.toNat*(3:Nat)+(0:Nat)) undef);letI q_5:=(ts.getD ((i - (1:Int)).toNat*(3:Nat)+(1:Nat)) undef);letI q_6:=(ts.getD ((i - (1:Int)).toNat*(3:Nat)+(2:Nat)) undef);letI q_7:=(ps.getD (i.toNat*(6:Nat)+(1:Nat)) undef);letI q_8:=(ps.getD (i.toNat*(6:Nat)+(2:Nat)) undef);letI q_9:=(ps.getD (i.toNat*(6:Nat)+(4:Nat)) undef);letI q_10:=(ps.getD (i.toNat*(6:Nat)+(5:Nat)) undef);
  (roundA Tryz.prog (ERkc K Z) 19 [1,2,3] (lb 19 p_jc) (false :: p_jc) (sh_jc er i n ts m ps) (hp_jc er i n ts m ps)=(bif decide (i < (↑n:Int)) then (bif decide ((0:Int)≤i)&&decide (i < (↑n:Int)) then (bif isRat q_4 q_2 q_3&&Z.oks (asS q_2) (asS q_3) then (bif !decide (Z.ck (asB q_4) (asS q_2) (asS q_3)=(0:Int)) then some (.ret,slots 59 [(1,(.ptr 0 0)),(2,(.val (.int .i64 1))),(3,(.val (.int .i64 i)))], [(.row (.cells [(.lst false 27 n (vrow (3:Nat) ts)),(.lst false 35 m (vrow (6:Nat) ps))]) 25 .live)]) else (bif decide ((0:Int)≤i)&&decide (i < (↑m:Int)) then (bif isRat (ps.getD (i.toNat*(6:Nat)+(0:Nat)) undef) q_7 q_8&&isRat (ps.getD (i.toNat*(6:Nat)+(3:Nat)) undef) q_9 q_10&&(K.ok (asS q_7) (asS q_8)&&K.ok (asS q_9) (asS q_10)) then (bif !decide (K.kv (asB (ps.getD (i.toNat*(6:Nat)+(0:Nat)) undef)) (asS q_7) (asS q_8) (asB (ps.getD (i.toNat*(6:Nat)+(3:Nat)) undef)) (asS q_9) (asS q_10)=(0:Int)) then some (.ret,slots 59 [(1,(.ptr 0 0)),(2,(.val (.int .i64 1))),(3,(.val (.int .i64 i)))], [(.row (.cells [(.lst false 27 n (vrow (3:Nat) ts)),(.lst false 35 m (vrow (6:Nat) ps))]) 25 .live)]) else (bif decide ((0:Int) < i) then (bif inR IntKind.i64 (i - (1:Int)) then (bif decide ((0:Int)≤i - (1:Int))&&decide (i - (1:Int) < (↑n:Int)) then (bif decide ((0:Int)≤i)&&decide (i < (↑n:Int)) then (bif isRat (ts.getD ((i - (1:Int)).toNat*(3:Nat)+(0:Nat)) undef) q_5 q_6&&isRat q_4 q_2 q_3&&(Z.oks (asS q_5) (asS q_6)&&Z.oks (asS q_2) (asS q_3)) then (bif decide ((0:Int)≤Z.cq (Z.qv (asB (ts.getD ((i - (1:Int)).toNat*(3:Nat)+(0:Nat)) undef)) (asS q_5) (asS q_6)) (Z.qv (asB q_4) (asS q_2) (asS q_3))) then some (.ret,slots 59 [(1,(.ptr 0 0)),(2,(.val (.int .i64 8))),(3,(.val (.int .i64 i)))], [(.row (.cells [(.lst false 27 n (vrow (3:Nat) ts)),(.lst false 35 m (vrow (6:Nat) ps))]) 25 .live)]) else q_1) else none) else none) else none) else none) else q_1)) else none) else none)) else none) else none) else some ((.exit 0),slots 59 [(1,(.ptr 0 0)),(2,(.val (.int .i64 er))),(3,(.val (.int .i64 i)))], [(.row (.cells [(.lst false 27 n (vrow (3:Nat) ts)),(.lst false 35 m (vrow (6:Nat) ps))]) 25 .live)]))):=by kernel_rfl
theorem step_jc {er:Int} {i:Int} {n:Nat} {ts:List Value} {m:Nat} {ps:List Value} {e:Ex} {T:List AV} {H:Hp} (h:roundA Tryz.prog (ERkc hg0 sq0) 19 [1,2,3] (lb 19 p_jc) (false :: p_jc) (sh_jc er i n ts m ps) (hp_jc er i n ts m ps)=some (e,T,H)):V.Ends Tryz.prog false 0 0 (lb 19 p_jc) (sh_jc er i n ts m ps) (hp_jc er i n ts m ps) e T H:=
 round_ends ((((meets_none _).add eRCmpQ.gRR).add eRVCheck.gP).add eRQCheck.gR) loops_none mixed code_jc h
section
variable {n : Nat} {ts ps : List Value} {er : Int}
theorem jc_step (i:Nat) (hi:i < n) (hn:n≤1000) (hx:∀ j,j < n→okX ts j=true) (hp:∀ j,j < n→okQ ps j=true) (h:ckE ts ps i=0):V.Ends Tryz.prog false 0 0 (lb 19 p_jc) (sh_jc er i n ts n ps) (hp_jc er i n ts n ps) .normal (sh_jc er ((i+1:Nat):Int) n ts n ps) (hp_jc er ((i+1:Nat):Int) n ts n ps):=by
 obtain ⟨g1,g2,g3⟩:=ckE_go h
 obtain ⟨a1,a2⟩:=okX_out (hx i hi)
 obtain ⟨⟨b1,b2⟩,b3,b4⟩:=okQ_out (hp i hi)
 have hr:=round_jc hg0 sq0 er i n ts n ps
 simp only [Int.toNat_natCast,Nat.zero_add] at hr
 rw [dT (show (i:Int) < (n:Int) by omega),dT (show (0:Int)≤(i:Int) by omega),a1,okm_s a2] at hr
 rw [dT g1,b1,b2,b3,b4,dT (show hg0.kv (asB (ps.getD (i*6+0) undef)) (asS (ps.getD (i*6+1) undef)) (asS (ps.getD (i*6+2) undef)) (asB (ps.getD (i*6+3) undef)) (asS (ps.getD (i*6+4) undef)) (asS (ps.getD (i*6+5) undef))=0 from g2)] at hr
 by_cases h0:i=0
 ·subst h0
  exact step_jc hr
 ·have g4:=g3 (by omega)
  obtain ⟨j,rfl⟩:∃ j,i=j+1:= ⟨i - 1,by omega⟩
  obtain ⟨c1,c2⟩:=okX_out (hx j (by omega))
  have e1:((j+1:Nat):Int) - 1=(j:Int):=by omega
  simp only [e1,Int.toNat_natCast] at hr
  rw [dT (show (0:Int) < ((j+1:Nat):Int) by omega),i64T (z:=(j:Int)) (by omega),dT (show (0:Int)≤(j:Int) by omega),dT (show (j:Int) < (n:Int) by omega),c1,okm_s c2,i64T (z:=((j+1:Nat):Int)+1) (by omega)] at hr
  have g5:¬ 0≤sq0.cq (sq0.qv (asB (ts.getD (j*3+0) undef)) (asS (ts.getD (j*3+1) undef)) (asS (ts.getD (j*3+2) undef))) (sq0.qv (asB (ts.getD ((j+1)*3+0) undef)) (asS (ts.getD ((j+1)*3+1) undef)) (asS (ts.getD ((j+1)*3+2) undef))):=g4
  rw [dF g5] at hr
  exact step_jc hr
theorem jc_stop (i:Nat) (hi:i < n) (hn:n≤1000) (hx:∀ j,j < n→okX ts j=true) (hp:∀ j,j < n→okQ ps j=true) (h:¬ ckE ts ps i=0):V.Ends Tryz.prog false 0 0 (lb 19 p_jc) (sh_jc er i n ts n ps) (hp_jc er i n ts n ps) .ret (sh_jc (ckE ts ps i) i n ts n ps) (hp_jc (ckE ts ps i) i n ts n ps):=by
 obtain ⟨a1,a2⟩:=okX_out (hx i hi)
 obtain ⟨⟨b1,b2⟩,b3,b4⟩:=okQ_out (hp i hi)
 have hr:=round_jc hg0 sq0 er i n ts n ps
 simp only [Int.toNat_natCast,Nat.zero_add] at hr
 rw [dT (show (i:Int) < (n:Int) by omega),dT (show (0:Int)≤(i:Int) by omega),a1,okm_s a2] at hr
 rcases ckE_stop h with ⟨g1,ge⟩ | ⟨g1,g2,ge⟩ | ⟨g1,g2,g3,g4,ge⟩ <;> rw [ge]
 ·rw [dF g1] at hr
  exact step_jc hr
 ·rw [dT g1,b1,b2,b3,b4,dF (show ¬ hg0.kv (asB (ps.getD (i*6+0) undef)) (asS (ps.getD (i*6+1) undef)) (asS (ps.getD (i*6+2) undef)) (asB (ps.getD (i*6+3) undef)) (asS (ps.getD (i*6+4) undef)) (asS (ps.getD (i*6+5) undef))=0 from g2)] at hr
  exact step_jc hr
 ·rw [dT g1,b1,b2,b3,b4,dT (show hg0.kv (asB (ps.getD (i*6+0) undef)) (asS (ps.getD (i*6+1) undef)) (asS (ps.getD (i*6+2) undef)) (asB (ps.getD (i*6+3) undef)) (asS (ps.getD (i*6+4) undef)) (asS (ps.getD (i*6+5) undef))=0 from g2)] at hr
  obtain ⟨j,rfl⟩:∃ j,i=j+1:= ⟨i - 1,by omega⟩
  obtain ⟨c1,c2⟩:=okX_out (hx j (by omega))
  have e1:((j+1:Nat):Int) - 1=(j:Int):=by omega
  simp only [e1,Int.toNat_natCast] at hr
  rw [dT (show (0:Int) < ((j+1:Nat):Int) by omega),i64T (z:=(j:Int)) (by omega),dT (show (0:Int)≤(j:Int) by omega),dT (show (j:Int) < (n:Int) by omega),c1,okm_s c2] at hr
  have g5:0≤sq0.cq (sq0.qv (asB (ts.getD (j*3+0) undef)) (asS (ts.getD (j*3+1) undef)) (asS (ts.getD (j*3+2) undef))) (sq0.qv (asB (ts.getD ((j+1)*3+0) undef)) (asS (ts.getD ((j+1)*3+1) undef)) (asS (ts.getD ((j+1)*3+2) undef))):=g4
  rw [dT g5] at hr
  exact step_jc hr
theorem jc_go (hn:n≤1000) (hx:∀ j,j < n→okX ts j=true) (hp:∀ j,j < n→okQ ps j=true) (h:∀ j,j < n→ckE ts ps j=0) (k:Nat):∀ i:Nat,n=i+k→LoopTo Tryz.prog (lb 19 p_jc) (sh_jc er i n ts n ps) (hp_jc er i n ts n ps) (.exit 0) (sh_jc er n n ts n ps) (hp_jc er n n ts n ps):=by
 induction k with
 | zero=>
  intro i hi
  have:i=n:=by omega
  subst this
  refine .last (step_jc ?_) (by intro h;cases h)
  rw [round_jc,dF (show ¬ ((i:Nat):Int) < (i:Int) by omega)]
  rfl
 | succ k ih=>
  intro i hi
  exact .more (jc_step i (by omega) hn hx hp (h i (by omega))) (ih (i+1) (by omega))
theorem jy_go (hn:n≤1000) (hx:∀ j,j < n→okX ts j=true) (hp:∀ j,j < n→okQ ps j=true) (q:Nat) (hq:q < n) (h:∀ j,j < q→ckE ts ps j=0) (he:¬ ckE ts ps q=0) (k:Nat):∀ i:Nat,q=i+k→LoopTo Tryz.prog (lb 19 p_jc) (sh_jc er i n ts n ps) (hp_jc er i n ts n ps) .ret (sh_jc (ckE ts ps q) q n ts n ps) (hp_jc (ckE ts ps q) q n ts n ps):=by
 induction k with
 | zero=>
  intro i hi
  have:i=q:=by omega
  subst this
  exact .last (jc_stop i hq hn hx hp he) (by intro h;cases h)
 | succ k ih=>
  intro i hi
  exact .more (jc_step i (by omega) hn hx hp (h i (by omega))) (ih (i+1) (by omega))
end
def pre_jc (er i:Int) (n:Nat) (ts:List Value) (m:Nat) (ps:List Value):Prop:=n=m∧i=0∧n≤1000∧(∀ j,j < n→okX ts j=true)∧(∀ j,j < n→okQ ps j=true)∧∀ j,j < n→ckE ts ps j=0
def post_jc (er i:Int) (n:Nat) (ts:List Value) (m:Nat) (ps:List Value) (ρ:Int):Prop:=True
theorem loop_jc (er i:Int) (n:Nat) (ts:List Value) (m:Nat) (ps:List Value) (h:pre_jc er i n ts m ps):∃ ρ:Int,LoopTo Tryz.prog (lb 19 p_jc) (sh_jc er i n ts m ps) (hp_jc er i n ts m ps) (.exit 0) (sh_jc er ρ n ts m ps) (hp_jc er ρ n ts m ps)∧post_jc er i n ts m ps ρ:=by
 obtain ⟨rfl,rfl,hn,hx,hp,h⟩:=h
 exact ⟨_,jc_go hn hx hp h _ 0 (Nat.zero_add _).symm,trivial⟩
def told_jc (κ:Int→Int→Nat→List Value→Nat→List Value→Bool) (φ:Int→Int→Nat→List Value→Nat→List Value→Int) (T:List AV) (H:Hp):Option (Bool×Ex×List AV×Hp):=
 match lget T 1,lget T 2,lget T 3,H with
 | .ptr 0 0, .val (.int .i64 er), .val (.int .i64 i), [.row (.cells [.lst false 27 n f_ts, .lst false 35 m f_ps]) 25 .live]=>bif T.length==59 then some (okV 3 n f_ts&&okV 6 m f_ps&&κ er i n (rowV 3 n f_ts) m (rowV 6 m f_ps), .exit 0,sh_jc er ((φ er i n (rowV 3 n f_ts) m (rowV 6 m f_ps))) n (rowV 3 n f_ts) m (rowV 6 m f_ps),hp_jc er ((φ er i n (rowV 3 n f_ts) m (rowV 6 m f_ps))) n (rowV 3 n f_ts) m (rowV 6 m f_ps)) else none
 | _,_,_,_=>none
abbrev KT_jc:Type:=Int→Int→Nat→List Value→Nat→List Value→Bool
abbrev FT_jc:Type:=Int→Int→Nat→List Value→Nat→List Value→Int
def LL_jc (κ:KT_jc) (φ:FT_jc) (L:LTab):LTab:=addLn 0 19 p_jc [1,2,3] (told_jc κ φ) L
def phi_jc (er:Int) (i:Int) (n:Nat) (ts:List Value) (m:Nat) (ps:List Value):Int:=Classical.epsilon fun ρ=>LoopTo Tryz.prog (lb 19 p_jc) (sh_jc er i n ts m ps) (hp_jc er i n ts m ps) (.exit 0) (sh_jc er (ρ) n ts m ps) (hp_jc er (ρ) n ts m ps)∧post_jc er i n ts m ps ρ
theorem phi_jc_spec (er:Int) (i:Int) (n:Nat) (ts:List Value) (m:Nat) (ps:List Value) (h:pre_jc er i n ts m ps):LoopTo Tryz.prog (lb 19 p_jc) (sh_jc er i n ts m ps) (hp_jc er i n ts m ps) (.exit 0) (sh_jc er ((phi_jc er i n ts m ps)) n ts m ps) (hp_jc er ((phi_jc er i n ts m ps)) n ts m ps)∧post_jc er i n ts m ps (phi_jc er i n ts m ps):=Classical.epsilon_spec (loop_jc er i n ts m ps h)
def cond_jc (er:Int) (i:Int) (n:Nat) (ts:List Value) (m:Nat) (ps:List Value):Bool:= @decide (pre_jc er i n ts m ps) (Classical.propDecidable _)
theorem cond_jc_eq (er:Int) (i:Int) (n:Nat) (ts:List Value) (m:Nat) (ps:List Value) (h:pre_jc er i n ts m ps):cond_jc er i n ts m ps=true:= @decide_eq_true _ (Classical.propDecidable _) h
theorem told_jc_ok (T:List AV) (H:Hp) (e:Ex) (T1:List AV) (H1:Hp) (h:told_jc cond_jc phi_jc T H=some (true,e,T1,H1)):V.Ends Tryz.prog false 0 0 (.loop (lb 19 p_jc)) T H e T1 H1:=by
 unfold told_jc at h
 split at h
 ·rename_i er i n f_ts m f_ps h1 h2 h3
  rw [Bool.cond_eq_ite] at h
  split at h
  ·rename_i hlen
   rw [beq_iff_eq] at hlen
   simp only [Option.some.injEq,Prod.mk.injEq,Bool.and_eq_true,decide_eq_true_eq] at h
   obtain ⟨⟨⟨k1,k2⟩,k3⟩,rfl,rfl,rfl⟩:=h
   have kc:= @of_decide_eq_true _ (Classical.propDecidable _) k3
   refine Ends.pre (Ends.preH (phi_jc_spec er i n (rowV 3 n f_ts) m (rowV 6 m f_ps) kc).1.ends (sameH.cons ⟨⟨rfl,fun _ _ _ _ _ hh=>rel_trj (by kernel_rfl) (by kernel_rfl) k1 k2 hh⟩,rfl,rfl⟩ sameH.nil)) (fun α B w D ys hr=>slots_rel hlen (fun p hp y hy=> ?_) hr)
   simp only [List.mem_cons,List.not_mem_nil,or_false] at hp
   rcases hp with rfl | rfl | rfl
   ·rw [h1] at hy;exact hy
   ·rw [h2] at hy;exact hy
   ·rw [h3] at hy;exact hy
  ·cases h
 ·cases h
theorem LL_jc_ok {L:LTab} (h:LOk Tryz.prog L):LOk Tryz.prog (LL_jc cond_jc phi_jc L):=h.add2n body_jc told_jc_ok
abbrev p_jy:List Bool:= [false,true,false,true,true,true,true]
def sh_jy (er:Int) (i:Int) (n:Nat) (ts:List Value) (m:Nat) (ps:List Value):List AV:=slots 59 [(1, .ptr 0 0),(2, .val (.int .i64 er)),(3, .val (.int .i64 i))]
def hp_jy (er:Int) (i:Int) (n:Nat) (ts:List Value) (m:Nat) (ps:List Value):Hp:= [.row (.cells [.lst false 27 n (vrow 3 ts), .lst false 35 m (vrow 6 ps)]) 25 .live]
theorem body_jy:subC Tryz.prog 19 p_jy=some (.loop (lb 19 p_jy)):=by kernel_rfl
def pre_jy (er i:Int) (n:Nat) (ts:List Value) (m:Nat) (ps:List Value):Prop:=n=m∧i=0∧n≤1000∧(∀ j,j < n→okX ts j=true)∧(∀ j,j < n→okQ ps j=true)∧∃ q,q < n∧(∀ j,j < q→ckE ts ps j=0)∧¬ ckE ts ps q=0
def post_jy (er i:Int) (n:Nat) (ts:List Value) (m:Nat) (ps:List Value) (ρ:Int×Int):Prop:=ρ.1=ckL ts ps n
theorem loop_jy (er i:Int) (n:Nat) (ts:List Value) (m:Nat) (ps:List Value) (h:pre_jy er i n ts m ps):∃ ρ:Int×Int,LoopTo Tryz.prog (lb 19 p_jy) (sh_jy er i n ts m ps) (hp_jy er i n ts m ps) .ret (sh_jy ρ.1 ρ.2 n ts m ps) (hp_jy ρ.1 ρ.2 n ts m ps)∧post_jy er i n ts m ps ρ:=by
 obtain ⟨rfl,rfl,hn,hx,hp,q,hq,h,he⟩:=h
 have e:=ckL_err h he (n - (q+1))
 rw [show q+1+(n - (q+1))=n by omega] at e
 exact ⟨(ckE ts ps q,(q:Int)),jy_go hn hx hp q hq h he q 0 (by omega),e.symm⟩
def told_jy (κ:Int→Int→Nat→List Value→Nat→List Value→Bool) (φ:Int→Int→Nat→List Value→Nat→List Value→Int×Int) (T:List AV) (H:Hp):Option (Bool×Ex×List AV×Hp):=
 match lget T 1,lget T 2,lget T 3,H with
 | .ptr 0 0, .val (.int .i64 er), .val (.int .i64 i), [.row (.cells [.lst false 27 n f_ts, .lst false 35 m f_ps]) 25 .live]=>bif T.length==59 then some (okV 3 n f_ts&&okV 6 m f_ps&&κ er i n (rowV 3 n f_ts) m (rowV 6 m f_ps), .ret,sh_jy ((φ er i n (rowV 3 n f_ts) m (rowV 6 m f_ps)).1) ((φ er i n (rowV 3 n f_ts) m (rowV 6 m f_ps)).2) n (rowV 3 n f_ts) m (rowV 6 m f_ps),hp_jy ((φ er i n (rowV 3 n f_ts) m (rowV 6 m f_ps)).1) ((φ er i n (rowV 3 n f_ts) m (rowV 6 m f_ps)).2) n (rowV 3 n f_ts) m (rowV 6 m f_ps)) else none
 | _,_,_,_=>none
abbrev KT_jy:Type:=Int→Int→Nat→List Value→Nat→List Value→Bool
abbrev FT_jy:Type:=Int→Int→Nat→List Value→Nat→List Value→Int×Int
def LL_jy (κ:KT_jy) (φ:FT_jy) (L:LTab):LTab:=addLn 0 19 p_jy [1,2,3] (told_jy κ φ) L
def phi_jy (er:Int) (i:Int) (n:Nat) (ts:List Value) (m:Nat) (ps:List Value):Int×Int:=Classical.epsilon fun ρ=>LoopTo Tryz.prog (lb 19 p_jy) (sh_jy er i n ts m ps) (hp_jy er i n ts m ps) (.ret) (sh_jy (ρ.1) (ρ.2) n ts m ps) (hp_jy (ρ.1) (ρ.2) n ts m ps)∧post_jy er i n ts m ps ρ
theorem phi_jy_spec (er:Int) (i:Int) (n:Nat) (ts:List Value) (m:Nat) (ps:List Value) (h:pre_jy er i n ts m ps):LoopTo Tryz.prog (lb 19 p_jy) (sh_jy er i n ts m ps) (hp_jy er i n ts m ps) (.ret) (sh_jy ((phi_jy er i n ts m ps).1) ((phi_jy er i n ts m ps).2) n ts m ps) (hp_jy ((phi_jy er i n ts m ps).1) ((phi_jy er i n ts m ps).2) n ts m ps)∧post_jy er i n ts m ps (phi_jy er i n ts m ps):=Classical.epsilon_spec (loop_jy er i n ts m ps h)
def cond_jy (er:Int) (i:Int) (n:Nat) (ts:List Value) (m:Nat) (ps:List Value):Bool:= @decide (pre_jy er i n ts m ps) (Classical.propDecidable _)
theorem cond_jy_eq (er:Int) (i:Int) (n:Nat) (ts:List Value) (m:Nat) (ps:List Value) (h:pre_jy er i n ts m ps):cond_jy er i n ts m ps=true:= @decide_eq_true _ (Classical.propDecidable _) h
theorem told_jy_ok (T:List AV) (H:Hp) (e:Ex) (T1:List AV) (H1:Hp) (h:told_jy cond_jy phi_jy T H=some (true,e,T1,H1)):V.Ends Tryz.prog false 0 0 (.loop (lb 19 p_jy)) T H e T1 H1:=by
 unfold told_jy at h
 split at h
 ·rename_i er i n f_ts m f_ps h1 h2 h3
  rw [Bool.cond_eq_ite] at h
  split at h
  ·rename_i hlen
   rw [beq_iff_eq] at hlen
   simp only [Option.some.injEq,Prod.mk.injEq,Bool.and_eq_true,decide_eq_true_eq] at h
   obtain ⟨⟨⟨k1,k2⟩,k3⟩,rfl,rfl,rfl⟩:=h
   have kc:= @of_decide_eq_true _ (Classical.propDecidable _) k3
   refine Ends.pre (Ends.preH (phi_jy_spec er i n (rowV 3 n f_ts) m (rowV 6 m f_ps) kc).1.ends (sameH.cons ⟨⟨rfl,fun _ _ _ _ _ hh=>rel_trj (by kernel_rfl) (by kernel_rfl) k1 k2 hh⟩,rfl,rfl⟩ sameH.nil)) (fun α B w D ys hr=>slots_rel hlen (fun p hp y hy=> ?_) hr)
   simp only [List.mem_cons,List.not_mem_nil,or_false] at hp
   rcases hp with rfl | rfl | rfl
   ·rw [h1] at hy;exact hy
   ·rw [h2] at hy;exact hy
   ·rw [h3] at hy;exact hy
  ·cases h
 ·cases h
theorem LL_jy_ok {L:LTab} (h:LOk Tryz.prog L):LOk Tryz.prog (LL_jy cond_jy phi_jy L):=h.add2n body_jy told_jy_ok
end
end Go.Proofs.YtamcpiicmfielaaGreat.L
namespace Go.Proofs.YtamcpiicmfielaaGreat.L
open Go Go.V Go.RowKit Go.Proofs.YtamcpiicmfielaaGreat.Sp
open Go.Proofs (Tryz.prog)
noncomputable section
abbrev aTrj (n:Nat) (ts:List Value) (m:Nat) (ps:List Value):AV:= .agg [.lst false 27 n (vrow 3 ts), .lst false 35 m (vrow 6 ps)]
structure Cg where
 ck:Nat→List Value→Nat→List Value→Int
 ko:Nat→List Value→Nat→List Value→Bool
def koN (n:Nat) (ts:List Value) (m:Nat) (ps:List Value):Bool:=(List.range n).all (okX ts)&&(List.range m).all (okQ ps)
def cg0:Cg where
 ck:=ckN
 ko:=koN
theorem koN_out {n:Nat} {ts:List Value} {m:Nat} {ps:List Value} (h:koN n ts m ps=true):(∀ j,j < n→okX ts j=true)∧∀ j,j < m→okQ ps j=true:=by
 unfold koN at h
 rw [Bool.and_eq_true] at h
 exact ⟨fun j hj=>all_lt h.1 hj,fun j hj=>all_lt h.2 hj⟩
def tChk (G:Cg):TF:=fun args=>match args with
 | [.agg [.lst _ 27 n f, .lst _ 35 m g]]=>some (okV 3 n f&&okV 6 m g&&G.ko n (rowV 3 n f) m (rowV 6 m g), .val (.int .i64 (G.ck n (rowV 3 n f) m (rowV 6 m g))))
 | _=>none
theorem kc_call (κ:KT_kc) (φ:FT_kc) (n:Nat) (ts:List Value) (m:Nat) (ps:List Value):callA Tryz.prog ⟨noC,Kall,LL_kc κ φ noL⟩ 10 10 18 [aTrj n ts m ps]=
  (bif !decide ((↑n:Int)=(↑m:Int)) then some (.val (.int .i64 9)) else (bif decide ((↑n:Int)=(0:Int)) then some (.val (.int .i64 11)) else (bif decide ((1000:Int) < (↑n:Int)) then some (.val (.int .i64 4)) else (bif okV (3:Nat) n (vrow (3:Nat) ts)&&okV (3:Nat) n (vrow (3:Nat) ts)&&okV (6:Nat) m (vrow (6:Nat) ps)&&κ (0:Int) n (rowV (3:Nat) n (vrow (3:Nat) ts)) (↑n:Int) (0:Int) n (rowV (3:Nat) n (vrow (3:Nat) ts)) m (rowV (6:Nat) m (vrow (6:Nat) ps)) then some (.val (.int .i64 0)) else none)))):=by kernel_rfl
theorem ky_call (κ:KT_ky) (φ:FT_ky) (n:Nat) (ts:List Value) (m:Nat) (ps:List Value):callA Tryz.prog ⟨noC,Kall,LL_ky κ φ noL⟩ 10 10 18 [aTrj n ts m ps]=
  (bif !decide ((↑n:Int)=(↑m:Int)) then some (.val (.int .i64 9)) else (bif decide ((↑n:Int)=(0:Int)) then some (.val (.int .i64 11)) else (bif decide ((1000:Int) < (↑n:Int)) then some (.val (.int .i64 4)) else (bif okV (3:Nat) n (vrow (3:Nat) ts)&&okV (3:Nat) n (vrow (3:Nat) ts)&&okV (6:Nat) m (vrow (6:Nat) ps)&&κ (0:Int) n (rowV (3:Nat) n (vrow (3:Nat) ts)) (↑n:Int) (0:Int) n (rowV (3:Nat) n (vrow (3:Nat) ts)) m (rowV (6:Nat) m (vrow (6:Nat) ps)) then some (.val (.int .i64 ((φ (0:Int) n (rowV (3:Nat) n (vrow (3:Nat) ts)) (↑n:Int) (0:Int) n (rowV (3:Nat) n (vrow (3:Nat) ts)) m (rowV (6:Nat) m (vrow (6:Nat) ps))).fst))) else none)))):=by kernel_rfl
theorem jc_call (κ:KT_jc) (φ:FT_jc) (n:Nat) (ts:List Value) (m:Nat) (ps:List Value):callA Tryz.prog ⟨noC,Kall,LL_jc κ φ noL⟩ 10 10 19 [aTrj n ts m ps]=
  (bif !decide ((↑n:Int)=(↑m:Int)) then some (.val (.int .i64 9)) else (bif decide ((↑n:Int)=(0:Int)) then some (.val (.int .i64 11)) else (bif decide ((1000:Int) < (↑n:Int)) then some (.val (.int .i64 4)) else (bif okV (3:Nat) n (vrow (3:Nat) ts)&&okV (6:Nat) m (vrow (6:Nat) ps)&&κ (0:Int) (0:Int) n (rowV (3:Nat) n (vrow (3:Nat) ts)) m (rowV (6:Nat) m (vrow (6:Nat) ps)) then some (.val (.int .i64 0)) else none)))):=by kernel_rfl
theorem jy_call (κ:KT_jy) (φ:FT_jy) (n:Nat) (ts:List Value) (m:Nat) (ps:List Value):callA Tryz.prog ⟨noC,Kall,LL_jy κ φ noL⟩ 10 10 19 [aTrj n ts m ps]=
  (bif !decide ((↑n:Int)=(↑m:Int)) then some (.val (.int .i64 9)) else (bif decide ((↑n:Int)=(0:Int)) then some (.val (.int .i64 11)) else (bif decide ((1000:Int) < (↑n:Int)) then some (.val (.int .i64 4)) else (bif okV (3:Nat) n (vrow (3:Nat) ts)&&okV (6:Nat) m (vrow (6:Nat) ps)&&κ (0:Int) (0:Int) n (rowV (3:Nat) n (vrow (3:Nat) ts)) m (rowV (6:Nat) m (vrow (6:Nat) ps)) then some (.val (.int .i64 ((φ (0:Int) (0:Int) n (rowV (3:Nat) n (vrow (3:Nat) ts)) m (rowV (6:Nat) m (vrow (6:Nat) ps))).fst))) else none)))):=by kernel_rfl
theorem imp_trj {fl fl2:Bool} {n m:Nat} {f g:Nat→Nat→AV} (h1:okV 3 n f=true) (h2:okV 6 m g=true):Imp (.agg [.lst fl 27 n f, .lst fl2 35 m g]) (aTrj n (rowV 3 n f) m (rowV 6 m g)):=
 Imp.agg (ImpL.cons (Imp.row (by kernel_rfl) h1) (ImpL.cons (Imp.row (by kernel_rfl) h2) (ImpL.refl _)))
theorem chk_entry {f:FuncId} (hok:okFn Tryz.prog f=true) (H:∀ (n:Nat) (ts:List Value) (m:Nat) (ps:List Value),ts.length=n*3→ps.length=m*6→koN n ts m ps=true→∃ (E:Env) (u d:Nat),Meets Tryz.prog E.C∧LoopsOk Tryz.prog E∧callA Tryz.prog E u d f [aTrj n ts m ps]=some (.val (.int .i64 (ckN n ts m ps)))):Entry Tryz.prog f (tChk cg0):=by
 refine entry_at hok (fun args r h=> ?_)
 unfold tChk at h
 split at h
 ·rename_i fl n fn fl2 m gn
  simp only [Option.some.injEq,Prod.mk.injEq,Bool.and_eq_true] at h
  obtain ⟨⟨⟨h1,h2⟩,h3⟩,rfl⟩:=h
  obtain ⟨E,u,d,c1,c2,c3⟩:=H n (rowV 3 n fn) m (rowV 6 m gn) (rowV_len 3 n fn) (rowV_len 6 m gn) h3
  exact ⟨E,u,d,_,_,c1,c2,c3,ImpL.cons (imp_trj h1 h2) (ImpL.refl _),Imp.refl _⟩
 ·cases h
theorem kc_val (n:Nat) (ts:List Value) (m:Nat) (ps:List Value) (l1:ts.length=n*3) (l2:ps.length=m*6) (ho:koN n ts m ps=true):∃ (E:Env) (u d:Nat),Meets Tryz.prog E.C∧LoopsOk Tryz.prog E∧callA Tryz.prog E u d 18 [aTrj n ts m ps]=some (.val (.int .i64 (ckN n ts m ps))):=by
 obtain ⟨hx,hp⟩:=koN_out ho
 by_cases hk:ckL ts ps n=0
 ·
  refine ⟨⟨noC,Kall,LL_kc cond_kc phi_kc noL⟩,10,10,meets_none _,(LL_kc_ok LOk.none).ok, ?_⟩
  rw [kc_call]
  by_cases h0:n=m
  ·subst h0
   rw [dT (show (n:Int)=n from rfl)]
   by_cases h1:n=0
   ·rw [dT (show (n:Int)=0 by omega)]
    unfold ckN
    rw [if_neg (fun h=>h rfl),if_pos h1];rfl
   rw [dF (show ¬ (n:Int)=0 by omega)]
   by_cases h2:1000 < n
   ·rw [dT (show (1000:Int) < n by omega)]
    unfold ckN
    rw [if_neg (fun h=>h rfl),if_neg h1,if_pos h2];rfl
   rw [dF (show ¬ (1000:Int) < n by omega),rowV_vrow l1,rowV_vrow l2,okV_vrow,okV_vrow]
   unfold ckN
   rw [if_neg (fun h=>h rfl),if_neg h1,if_neg h2]
   have hq:pre_kc 0 n ts n 0 n ts n ps:= ⟨rfl,rfl,rfl,rfl,rfl,by omega,hx,hp,ckL_ok hk⟩
   rw [cond_kc_eq _ _ _ _ _ _ _ _ _ hq]
   rw [hk];rfl
  ·rw [dF (show ¬ (n:Int)=(m:Int) by omega)]
   unfold ckN
   rw [if_pos h0];rfl
 ·
  refine ⟨⟨noC,Kall,LL_ky cond_ky phi_ky noL⟩,10,10,meets_none _,(LL_ky_ok LOk.none).ok, ?_⟩
  rw [ky_call]
  by_cases h0:n=m
  ·subst h0
   rw [dT (show (n:Int)=n from rfl)]
   by_cases h1:n=0
   ·rw [dT (show (n:Int)=0 by omega)]
    unfold ckN
    rw [if_neg (fun h=>h rfl),if_pos h1];rfl
   rw [dF (show ¬ (n:Int)=0 by omega)]
   by_cases h2:1000 < n
   ·rw [dT (show (1000:Int) < n by omega)]
    unfold ckN
    rw [if_neg (fun h=>h rfl),if_neg h1,if_pos h2];rfl
   rw [dF (show ¬ (1000:Int) < n by omega),rowV_vrow l1,rowV_vrow l2,okV_vrow,okV_vrow]
   unfold ckN
   rw [if_neg (fun h=>h rfl),if_neg h1,if_neg h2]
   have hq:pre_ky 0 n ts n 0 n ts n ps:=by
    refine ⟨rfl,rfl,rfl,rfl,rfl,by omega,hx,hp, ?_⟩
    have hany:(List.range n).any (fun j=> !decide (ckE ts ps j=0))=true:=by
     rw [List.any_eq_true]
     apply Classical.byContradiction
     intro hno
     refine hk (ckL_zero fun j hj=>Classical.byContradiction fun he=>hno ⟨j,List.mem_range.2 hj, ?_⟩)
     rw [decide_eq_false he];rfl
    obtain ⟨q,q1,q2,q3⟩:=first_of n hany
    refine ⟨q,q1,fun j hj=> ?_, ?_⟩
    ·have:=q2 j hj
     rwa [Bool.not_eq_false',decide_eq_true_eq] at this
    ·rwa [Bool.not_eq_true',decide_eq_false_iff_not] at q3
   rw [cond_ky_eq _ _ _ _ _ _ _ _ _ hq]
   rw [show (phi_ky 0 n ts n 0 n ts n ps).1=ckL ts ps n from (phi_ky_spec _ _ _ _ _ _ _ _ _ hq).2];rfl
  ·rw [dF (show ¬ (n:Int)=(m:Int) by omega)]
   unfold ckN
   rw [if_pos h0];rfl
theorem jc_val (n:Nat) (ts:List Value) (m:Nat) (ps:List Value) (l1:ts.length=n*3) (l2:ps.length=m*6) (ho:koN n ts m ps=true):∃ (E:Env) (u d:Nat),Meets Tryz.prog E.C∧LoopsOk Tryz.prog E∧callA Tryz.prog E u d 19 [aTrj n ts m ps]=some (.val (.int .i64 (ckN n ts m ps))):=by
 obtain ⟨hx,hp⟩:=koN_out ho
 by_cases hk:ckL ts ps n=0
 ·
  refine ⟨⟨noC,Kall,LL_jc cond_jc phi_jc noL⟩,10,10,meets_none _,(LL_jc_ok LOk.none).ok, ?_⟩
  rw [jc_call]
  by_cases h0:n=m
  ·subst h0
   rw [dT (show (n:Int)=n from rfl)]
   by_cases h1:n=0
   ·rw [dT (show (n:Int)=0 by omega)]
    unfold ckN
    rw [if_neg (fun h=>h rfl),if_pos h1];rfl
   rw [dF (show ¬ (n:Int)=0 by omega)]
   by_cases h2:1000 < n
   ·rw [dT (show (1000:Int) < n by omega)]
    unfold ckN
    rw [if_neg (fun h=>h rfl),if_neg h1,if_pos h2];rfl
   rw [dF (show ¬ (1000:Int) < n by omega),rowV_vrow l1,rowV_vrow l2,okV_vrow,okV_vrow]
   unfold ckN
   rw [if_neg (fun h=>h rfl),if_neg h1,if_neg h2]
   have hq:pre_jc 0 0 n ts n ps:= ⟨rfl,rfl,by omega,hx,hp,ckL_ok hk⟩
   rw [cond_jc_eq _ _ _ _ _ _ hq]
   rw [hk];rfl
  ·rw [dF (show ¬ (n:Int)=(m:Int) by omega)]
   unfold ckN
   rw [if_pos h0];rfl
 ·
  refine ⟨⟨noC,Kall,LL_jy cond_jy phi_jy noL⟩,10,10,meets_none _,(LL_jy_ok LOk.none).ok, ?_⟩
  rw [jy_call]
  by_cases h0:n=m
  ·subst h0
   rw [dT (show (n:Int)=n from rfl)]
   by_cases h1:n=0
   ·rw [dT (show (n:Int)=0 by omega)]
    unfold ckN
    rw [if_neg (fun h=>h rfl),if_pos h1];rfl
   rw [dF (show ¬ (n:Int)=0 by omega)]
   by_cases h2:1000 < n
   ·rw [dT (show (1000:Int) < n by omega)]
    unfold ckN
    rw [if_neg (fun h=>h rfl),if_neg h1,if_pos h2];rfl
   rw [dF (show ¬ (1000:Int) < n by omega),rowV_vrow l1,rowV_vrow l2,okV_vrow,okV_vrow]
   unfold ckN
   rw [if_neg (fun h=>h rfl),if_neg h1,if_neg h2]
   have hq:pre_jy 0 0 n ts n ps:=by
    refine ⟨rfl,rfl,by omega,hx,hp, ?_⟩
    have hany:(List.range n).any (fun j=> !decide (ckE ts ps j=0))=true:=by
     rw [List.any_eq_true]
     apply Classical.byContradiction
     intro hno
     refine hk (ckL_zero fun j hj=>Classical.byContradiction fun he=>hno ⟨j,List.mem_range.2 hj, ?_⟩)
     rw [decide_eq_false he];rfl
    obtain ⟨q,q1,q2,q3⟩:=first_of n hany
    refine ⟨q,q1,fun j hj=> ?_, ?_⟩
    ·have:=q2 j hj
     rwa [Bool.not_eq_false',decide_eq_true_eq] at this
    ·rwa [Bool.not_eq_true',decide_eq_false_iff_not] at q3
   rw [cond_jy_eq _ _ _ _ _ _ hq]
   rw [show (phi_jy 0 0 n ts n ps).1=ckL ts ps n from (phi_jy_spec _ _ _ _ _ _ hq).2];rfl
  ·rw [dF (show ¬ (n:Int)=(m:Int) by omega)]
   unfold ckN
   rw [if_pos h0];rfl
theorem eChk:Entry Tryz.prog 18 (tChk cg0):=chk_entry (by kernel_rfl) kc_val
theorem eRChk:Entry Tryz.prog 19 (tChk cg0):=chk_entry (by kernel_rfl) jc_val
end
end Go.Proofs.YtamcpiicmfielaaGreat.L
namespace Go.Proofs.YtamcpiicmfielaaGreat.L
open Go Go.V Go.RowKit Go.Proofs.YtamcpiicmfielaaGreat.Sp Go.Proofs.YtamcpiicmfielaaGreat.F
open Go.Proofs (Tryz.prog)
noncomputable section
def toBC:Nat→Nat→List UInt8
 | 0,_=> []
 | k+1,n=>if n=0 then [] else toBC k (n / 256) ++ [UInt8.ofNat n]
theorem toBC_eq (k:Nat):∀ n,n < 256 ^ k→toBC k n=toB n:=by
 induction k with
 | zero=>
  intro n h
  have:n=0:=by rw [Nat.pow_zero] at h;omega
  subst this
  unfold toB;rfl
 | succ k ih=>
  intro n h
  unfold toB toBC
  by_cases h0:n=0
  ·rw [if_pos h0,dif_pos h0]
  ·rw [if_neg h0,dif_neg h0,ih (n / 256) (by rw [Nat.pow_succ] at h;exact Nat.div_lt_of_lt_mul (by rw [Nat.mul_comm];exact h))]
def magC (n:Nat):ByteArray:=if n < 281474976710656 then ⟨(toBC 6 n).toArray⟩ else magOf n
theorem magC_eq:magC=magOf:=by
 funext n
 unfold magC
 split
 ·rename_i h
  rw [toBC_eq 6 n h];rfl
 ·rfl
def sgM (mg:Nat→ByteArray):Sg:= { sg0 with ms:=fun z=>mg z.natAbs }
def qdM (mg:Nat→ByteArray) (q:Rat):ByteArray:=if q.den=1 then ByteArray.mk #[] else mg q.den
def sqM (mg:Nat→ByteArray):Qg:= { sq0 with
 qs:=fun q=>mg q.num.natAbs
 qd:=qdM mg
 ck:=fun b n d=>bif (b==qnn (qvn b n d))&&strEq n (mg (qvn b n d).num.natAbs)&&strEq d (qdM mg (qvn b n d)) then 0 else 1 }
theorem sgM_eq:sg0=sgM magC:=by rw [magC_eq];rfl
theorem sqM_eq:sq0=sqM magC:=by rw [magC_eq];rfl
def CAwS (S:Sg) (X:Xg) (Z:Qg):FuncId→TF:=addC 87 (tQRatio X Z) (addC 28 (tQOf Z) (addC 29 (tQAdd Z) (addC 31 (tQSub Z) (addC 30 (tQMul Z) (addC 42 (tQQuo Z) (addC 23 (tQCompare Z) (addC 27 (tQSign Z) (addC 49 (tQCheck Z) (addC 122 (tQCeil S Z) (addC 84 (tQNew S X Z) (addC 123 (tRoot S X) (addC 69 (tOf S) (addC 75 (tAdd S) (addC 64 (tCompare S) noC))))))))))))))
theorem CAwS_ok:Meets Tryz.prog (CAwS sg0 xg0 sq0):=(((((((((((((((meets_none _).add eCompare).add eAdd).add eOf).add eRoot).add eQNew).add eQCeil).add eQCheck).add eQSign).add eQCompare).add eQQuo).add eQMul).add eQSub).add eQAdd).add eQOf).add eQRatio
def KAw:FuncId→Bool:=fun g=> !(g==98 ||g==99)
def tAwS:TF:=fun args=>match args with | []=>some (true, .val (.bool true)) | _=>none
theorem awk51:callA Tryz.prog ⟨CAwS (sgM magC) xg0 (sqM magC),KAw,noL⟩ 20 20 9 []=some (.val (.bool true)):=by kernel_rfl
theorem eAwakeS:Entry Tryz.prog 9 tAwS:=entry_of CAwS_ok loops_none mixed (by kernel_rfl) (fun args r h=>by
 unfold tAwS at h
 split at h
 ·cases h;rw [sgM_eq,sqM_eq];exact awk51
 ·cases h)
end
end Go.Proofs.YtamcpiicmfielaaGreat.L
namespace Go.Proofs.YtamcpiicmfielaaGreat.L
open Go Go.V Go.RowKit Go.Proofs.YtamcpiicmfielaaGreat.Sp
open Go.Proofs (Tryz.prog)
noncomputable section
def Qg.pair (Z:Qg) (a b:Rat):AV:= .agg [.val (.bool (Z.qn a)), .val (.string (Z.qs a)), .val (.string (Z.qd a)), .val (.bool (Z.qn b)), .val (.string (Z.qs b)), .val (.string (Z.qd b))]
theorem vat_tree (Z:Qg) (b c b2 c2 b3:Bool) (n d m e n2 d2 m2 e2 n3 d3:BA):letI q_3:=(Z.qv b2 n2 d2 - Z.qv b n d);letI q_1:=(Z.qv (Z.qn q_3) (Z.qs q_3) (Z.qd q_3)*Z.qv b3 n3 d3);letI q_4:=(Z.qv c2 m2 e2 - Z.qv c m e);letI q_2:=(Z.qv (Z.qn q_4) (Z.qs q_4) (Z.qd q_4)*Z.qv b3 n3 d3);letI q_5:=(Z.qv b n d+Z.qv (Z.qn q_1) (Z.qs q_1) (Z.qd q_1));letI q_6:=(Z.qv c m e+Z.qv (Z.qn q_2) (Z.qs q_2) (Z.qd q_2));
  (callA Tryz.prog ⟨CQd Z,Kall,noL⟩ 10 10 32 [w6 b n d c m e,w6 b2 n2 d2 c2 m2 e2,w3 b3 n3 d3]=(bif Z.ok n2 d2&&Z.ok n d then (bif Z.ok m2 e2&&Z.ok m e then (bif Z.ok (Z.qs q_3) (Z.qd q_3)&&Z.ok n3 d3 then (bif Z.ok (Z.qs q_4) (Z.qd q_4)&&Z.ok n3 d3 then (bif Z.ok n d&&Z.ok (Z.qs q_1) (Z.qd q_1) then (bif Z.ok m e&&Z.ok (Z.qs q_2) (Z.qd q_2) then some (.agg [(.val (.bool (Z.qn q_5))),(.val (.string (Z.qs q_5))),(.val (.string (Z.qd q_5))),(.val (.bool (Z.qn q_6))),(.val (.string (Z.qs q_6))),(.val (.string (Z.qd q_6)))]) else none) else none) else none) else none) else none) else none)):=by kernel_rfl
def ESr (Z:Qg):Env:= ⟨addC 23 (gRR (tQCompare Z)) noC,KAw,noL⟩
abbrev p_sr:List Bool:= [false,false,true,true]
def sh_sr (n0:Int) (i:Int) (j:Int) (n:Nat) (ts:List Value) (m:Nat) (ps:List Value) (xb:Bool) (xn:ByteArray) (xd:ByteArray) (z0:Bool) (z1:ByteArray) (z2:ByteArray) (z3:Bool) (z4:ByteArray) (z5:ByteArray):List AV:=slots 26 [(0, .val (.int .i64 n0)),(1, .clo (.func 99) [] [.ptr 0 0,.ptr 1 0]),(5, .val (.int .i64 i)),(6, .val (.int .i64 j))]
def hp_sr (n0:Int) (i:Int) (j:Int) (n:Nat) (ts:List Value) (m:Nat) (ps:List Value) (xb:Bool) (xn:ByteArray) (xd:ByteArray) (z0:Bool) (z1:ByteArray) (z2:ByteArray) (z3:Bool) (z4:ByteArray) (z5:ByteArray):Hp:= [.row (.cells [.lst false 27 n (vrow 3 ts), .lst false 35 m (vrow 6 ps)]) 25 .live, .row (.cells [.val (.bool xb), .val (.string xn), .val (.string xd)]) 27 .live, .row (.cells [.val (.bool z0), .val (.string z1), .val (.string z2), .val (.bool z3), .val (.string z4), .val (.string z5)]) 35 .live]
theorem body_sr:subC Tryz.prog 98 p_sr=some (.loop (lb 98 p_sr)):=by kernel_rfl
theorem code_sr:subC Tryz.prog 98 (false :: p_sr)=some (lb 98 p_sr):=by kernel_rfl
theorem round_sr (Z:Qg) (n0:Int) (i:Int) (j:Int) (n:Nat) (ts:List Value) (m:Nat) (ps:List Value) (xb:Bool) (xn:ByteArray) (xd:ByteArray) (z0:Bool) (z1:ByteArray) (z2:ByteArray) (z3:Bool) (z4:ByteArray) (z5:ByteArray):letI q_1:=((IntKind.u64.wrap (i+j)).fdiv (2:Int));letI q_2:=(ts.getD ((IntKind.i64.wrap q_1).toNat*(3:Nat)+(1:Nat)) undef);letI q_3:=(ts.getD ((IntKind.i64.wrap q_1).toNat*(3:Nat)+(2:Nat)) undef);
  (roundB Tryz.prog (ESr Z) 3 98 [0,1,5,6] (lb 98 p_sr) (false :: p_sr) (sh_sr n0 i j n ts m ps xb xn xd z0 z1 z2 z3 z4 z5) (hp_sr n0 i j n ts m ps xb xn xd z0 z1 z2 z3 z4 z5)=(bif decide (i < j) then (bif inR IntKind.i64 (i+j) then (bif decide ((0:Int)≤IntKind.i64.wrap q_1)&&decide (IntKind.i64.wrap q_1 < (↑n:Int)) then (bif isRat (ts.getD ((IntKind.i64.wrap q_1).toNat*(3:Nat)+(0:Nat)) undef) q_2 q_3&&true&&(Z.ok (asS q_2) (asS q_3)&&Z.ok xn xd) then (bif !decide ((0:Int)≤Z.cq (Z.qv (asB (ts.getD ((IntKind.i64.wrap q_1).toNat*(3:Nat)+(0:Nat)) undef)) (asS q_2) (asS q_3)) (Z.qv xb xn xd)) then (bif inR IntKind.i64 (IntKind.i64.wrap q_1+(1:Int)) then some (.normal,slots 26 [(0,(.val (.int .i64 n0))),(1,(.clo (Fn.func (99:FuncId)) [] [(.ptr 0 0),(.ptr 1 0)])),(5,(.val (.int .i64 (IntKind.i64.wrap q_1+(1:Int))))),(6,(.val (.int .i64 j)))], [(.row (.cells [(.lst false 27 n (vrow (3:Nat) ts)),(.lst false 35 m (vrow (6:Nat) ps))]) 25 .live),(.row (.cells [(.val (.bool xb)),(.val (.string xn)),(.val (.string xd))]) 27 .live),(.row (.cells [(.val (.bool z0)),(.val (.string z1)),(.val (.string z2)),(.val (.bool z3)),(.val (.string z4)),(.val (.string z5))]) 35 .live)]) else none) else some (.normal,slots 26 [(0,(.val (.int .i64 n0))),(1,(.clo (Fn.func (99:FuncId)) [] [(.ptr 0 0),(.ptr 1 0)])),(5,(.val (.int .i64 i))),(6,(.val (.int .i64 (IntKind.i64.wrap q_1))))], [(.row (.cells [(.lst false 27 n (vrow (3:Nat) ts)),(.lst false 35 m (vrow (6:Nat) ps))]) 25 .live),(.row (.cells [(.val (.bool xb)),(.val (.string xn)),(.val (.string xd))]) 27 .live),(.row (.cells [(.val (.bool z0)),(.val (.string z1)),(.val (.string z2)),(.val (.bool z3)),(.val (.string z4)),(.val (.string z5))]) 35 .live)])) else none) else none) else none) else some ((.exit 0),slots 26 [(0,(.val (.int .i64 n0))),(1,(.clo (Fn.func (99:FuncId)) [] [(.ptr 0 0),(.ptr 1 0)])),(5,(.val (.int .i64 i))),(6,(.val (.int .i64 j)))], [(.row (.cells [(.lst false 27 n (vrow (3:Nat) ts)),(.lst false 35 m (vrow (6:Nat) ps))]) 25 .live),(.row (.cells [(.val (.bool xb)),(.val (.string xn)),(.val (.string xd))]) 27 .live),(.row (.cells [(.val (.bool z0)),(.val (.string z1)),(.val (.string z2)),(.val (.bool z3)),(.val (.string z4)),(.val (.string z5))]) 35 .live)]))):=by kernel_rfl
theorem step_sr {n0:Int} {i:Int} {j:Int} {n:Nat} {ts:List Value} {m:Nat} {ps:List Value} {xb:Bool} {xn:ByteArray} {xd:ByteArray} {z0:Bool} {z1:ByteArray} {z2:ByteArray} {z3:Bool} {z4:ByteArray} {z5:ByteArray} {e:Ex} {T:List AV} {H:Hp} (h:roundB Tryz.prog (ESr sq0) 3 98 [0,1,5,6] (lb 98 p_sr) (false :: p_sr) (sh_sr n0 i j n ts m ps xb xn xd z0 z1 z2 z3 z4 z5) (hp_sr n0 i j n ts m ps xb xn xd z0 z1 z2 z3 z4 z5)=some (e,T,H)):V.Ends Tryz.prog false 3 0 (lb 98 p_sr) (sh_sr n0 i j n ts m ps xb xn xd z0 z1 z2 z3 z4 z5) (hp_sr n0 i j n ts m ps xb xn xd z0 z1 z2 z3 z4 z5) e T H:=
 round_endsB ((meets_none _).add eQCompare.gRR) loops_none mixed code_sr h
theorem mid_eq (i j:Nat) (h:i+j≤4000):IntKind.i64.wrap ((IntKind.u64.wrap ((i:Int)+(j:Int))).fdiv 2)=(((i+j) / 2:Nat):Int):=by
 have e1:IntKind.u64.wrap ((i:Int)+(j:Int))=((i+j:Nat):Int):=by
  unfold IntKind.wrap
  simp [IntKind.signed,IntKind.bits]
  omega
 rw [e1,show ((i+j:Nat):Int).fdiv 2=(((i+j) / 2:Nat):Int) by rw [Int.fdiv_eq_ediv_of_nonneg _ (by decide)];omega]
 unfold IntKind.wrap
 simp [IntKind.signed,IntKind.bits]
 omega
theorem cq_ge {a b:Rat} :0≤sq0.cq a b↔¬ a < b:=by
 show 0≤cqn a b↔_
 unfold cqn
 split
 ·rename_i h
  exact ⟨fun h2=>by omega,fun h2=>absurd h h2⟩
 ·rename_i h
  exact ⟨fun _=>h,fun _=>by split <;> omega⟩
def srN (ts:List Value) (x:Rat):Nat→Nat
 | 0=>0
 | n+1=>if srN ts x n=n then (if qt ts n < x then n+1 else n) else srN ts x n
theorem srN_is (ts:List Value) (x:Rat) (n:Nat):srN ts x n≤n∧(∀ k,k < srN ts x n→qt ts k < x)∧(srN ts x n < n→¬ qt ts (srN ts x n) < x):=by
 induction n with
 | zero=>exact ⟨Nat.le_refl _,fun k hk=>absurd hk (Nat.not_lt_zero k),fun h=>absurd h (Nat.lt_irrefl 0)⟩
 | succ n ih=>
  obtain ⟨h1,h2,h3⟩:=ih
  unfold srN
  split
  ·rename_i he
   split
   ·rename_i hx
    refine ⟨Nat.le_refl _,fun k hk=> ?_,fun h=>by omega⟩
    by_cases hk2:k=n
    ·subst hk2;exact hx
    ·exact h2 k (by omega)
   ·rename_i hx
    exact ⟨by omega,fun k hk=>h2 k (by omega),fun _=>hx⟩
  ·exact ⟨by omega,h2,fun h=>h3 (by omega)⟩
theorem srN_uniq {ts:List Value} {x:Rat} {n s:Nat} (h1:s≤n) (h2:∀ k,k < s→qt ts k < x) (h3:s < n→¬ qt ts s < x):s=srN ts x n:=by
 obtain ⟨g1,g2,g3⟩:=srN_is ts x n
 rcases Nat.lt_trichotomy s (srN ts x n) with h | h | h
 ·exact absurd (g2 s h) (h3 (by omega))
 ·exact h
 ·exact absurd (h2 _ h) (g3 (by omega))
structure TsOk (n:Nat) (ts:List Value):Prop where
 lim:n≤1000
 ok:∀ j,j < n→okX ts j=true
 up:∀ j,j+1 < n→qt ts j < qt ts (j+1)
theorem TsOk.mono {n:Nat} {ts:List Value} (h:TsOk n ts) {a:Nat} (d:Nat):a+d < n→qt ts a≤qt ts (a+d):=by
 induction d with
 | zero=>intro _;exact Rat.le_refl
 | succ d ih=>
  intro hb
  exact Rat.le_trans (ih (by omega)) (Rat.le_of_lt (h.up (a+d) (by omega)))
theorem TsOk.le {n:Nat} {ts:List Value} (h:TsOk n ts) {a b:Nat} (hab:a≤b) (hb:b < n):qt ts a≤qt ts b:=by
 obtain ⟨d,rfl⟩:=Nat.exists_eq_add_of_le hab
 exact h.mono d hb
section
variable {n : Nat} {ts ps : List Value} {xb : Bool} {xn xd : BA} {z0 : Bool} {z1 z2 : BA} {z3 : Bool} {z4 z5 : BA}
theorem sr_go (h:TsOk n ts) (ho:okm xn xd=true) (d:Nat):∀ i j:Nat,i≤j→j≤n→j - i≤d→(∀ k,k < i→qt ts k < sq0.qv xb xn xd)→(∀ k,j≤k→k < n→¬ qt ts k < sq0.qv xb xn xd)→
  LoopToB Tryz.prog 3 (lb 98 p_sr) (sh_sr n i j n ts n ps xb xn xd z0 z1 z2 z3 z4 z5) (hp_sr n i j n ts n ps xb xn xd z0 z1 z2 z3 z4 z5) (.exit 0) (sh_sr n (srN ts (sq0.qv xb xn xd) n:Nat) (srN ts (sq0.qv xb xn xd) n:Nat) n ts n ps xb xn xd z0 z1 z2 z3 z4 z5) (hp_sr n (srN ts (sq0.qv xb xn xd) n:Nat) (srN ts (sq0.qv xb xn xd) n:Nat) n ts n ps xb xn xd z0 z1 z2 z3 z4 z5):=by
 induction d with
 | zero=>
  intro i j h1 h2 h3 h4 h5
  have:i=j:=by omega
  subst this
  have hs:=srN_uniq (n:=n) h2 h4 (fun hn=>h5 i (Nat.le_refl _) hn)
  rw [← hs]
  refine .last (step_sr ?_) (by intro h;cases h)
  rw [round_sr,dF (show ¬ ((i:Nat):Int) < (i:Int) by omega)]
  rfl
 | succ d ih=>
  intro i j h1 h2 h3 h4 h5
  by_cases he:i=j
  ·exact ih i j h1 h2 (by omega) h4 h5
  ·have hlim:=h.lim
   obtain ⟨a1,a2⟩:=okX_out (h.ok ((i+j) / 2) (by omega))
   have hr:=round_sr sq0 n i j n ts n ps xb xn xd z0 z1 z2 z3 z4 z5
   rw [mid_eq i j (by omega)] at hr
   simp only [Int.toNat_natCast] at hr
   rw [dT (show (i:Int) < (j:Int) by omega),i64T (z:=(i:Int)+(j:Int)) (by omega),dT (show (0:Int)≤(((i+j) / 2:Nat):Int) by omega),dT (show (((i+j) / 2:Nat):Int) < (n:Int) by omega),a1,okm_q a2,okm_q ho] at hr
   by_cases hc:qt ts ((i+j) / 2) < sq0.qv xb xn xd
   ·have hc2:¬ 0≤sq0.cq (sq0.qv (asB (ts.getD ((i+j) / 2*3+0) undef)) (asS (ts.getD ((i+j) / 2*3+1) undef)) (asS (ts.getD ((i+j) / 2*3+2) undef))) (sq0.qv xb xn xd):=fun hh=>cq_ge.1 hh hc
    rw [dF hc2,i64T (z:=(((i+j) / 2:Nat):Int)+1) (by omega)] at hr
    refine .more (step_sr hr) (ih ((i+j) / 2+1) j (by omega) h2 (by omega) (fun k hk=> ?_) h5)
    by_cases hk2:k < i
    ·exact h4 k hk2
    ·have:=h.le (show k≤(i+j) / 2 by omega) (by omega)
     grind
   ·have hc2:0≤sq0.cq (sq0.qv (asB (ts.getD ((i+j) / 2*3+0) undef)) (asS (ts.getD ((i+j) / 2*3+1) undef)) (asS (ts.getD ((i+j) / 2*3+2) undef))) (sq0.qv xb xn xd):=cq_ge.2 hc
    rw [dT hc2] at hr
    refine .more (step_sr hr) (ih i ((i+j) / 2) (by omega) (by omega) (by omega) h4 (fun k hk hk3=> ?_))
    have:=h.le hk hk3
    grind
end
def pre_sr (n0 i j:Int) (n:Nat) (ts:List Value) (m:Nat) (ps:List Value) (xb:Bool) (xn xd:BA) (z0:Bool) (z1 z2:BA) (z3:Bool) (z4 z5:BA):Prop:=n0=(n:Int)∧n=m∧i=0∧j=(n:Int)∧TsOk n ts∧okm xn xd=true
def post_sr (n0 i j:Int) (n:Nat) (ts:List Value) (m:Nat) (ps:List Value) (xb:Bool) (xn xd:BA) (z0:Bool) (z1 z2:BA) (z3:Bool) (z4 z5:BA) (ρ:Int×Int):Prop:=ρ.1=(srN ts (sq0.qv xb xn xd) n:Nat)
theorem loop_sr (n0 i j:Int) (n:Nat) (ts:List Value) (m:Nat) (ps:List Value) (xb:Bool) (xn xd:BA) (z0:Bool) (z1 z2:BA) (z3:Bool) (z4 z5:BA) (h:pre_sr n0 i j n ts m ps xb xn xd z0 z1 z2 z3 z4 z5):∃ ρ:Int×Int,LoopToB Tryz.prog 3 (lb 98 p_sr) (sh_sr n0 i j n ts m ps xb xn xd z0 z1 z2 z3 z4 z5) (hp_sr n0 i j n ts m ps xb xn xd z0 z1 z2 z3 z4 z5) (.exit 0) (sh_sr n0 ρ.1 ρ.2 n ts m ps xb xn xd z0 z1 z2 z3 z4 z5) (hp_sr n0 ρ.1 ρ.2 n ts m ps xb xn xd z0 z1 z2 z3 z4 z5)∧post_sr n0 i j n ts m ps xb xn xd z0 z1 z2 z3 z4 z5 ρ:=by
 obtain ⟨rfl,rfl,rfl,rfl,ht,ho⟩:=h
 exact ⟨(_,_),sr_go ht ho n 0 n (Nat.zero_le _) (Nat.le_refl _) (by omega) (fun k hk=>by cases hk) (fun k h1 h2=>by omega),rfl⟩
def told_sr (κ:Int→Int→Int→Nat→List Value→Nat→List Value→Bool→ByteArray→ByteArray→Bool→ByteArray→ByteArray→Bool→ByteArray→ByteArray→Bool) (φ:Int→Int→Int→Nat→List Value→Nat→List Value→Bool→ByteArray→ByteArray→Bool→ByteArray→ByteArray→Bool→ByteArray→ByteArray→Int×Int) (T:List AV) (H:Hp):Option (Bool×Ex×List AV×Hp):=
 match lget T 0,lget T 1,lget T 5,lget T 6,H with
 | .val (.int .i64 n0), .clo (.func 99) [] [.ptr 0 0,.ptr 1 0], .val (.int .i64 i), .val (.int .i64 j), [.row (.cells [.lst false 27 n f_ts, .lst false 35 m f_ps]) 25 .live, .row (.cells [.val (.bool xb), .val (.string xn), .val (.string xd)]) 27 .live, .row (.cells [.val (.bool z0), .val (.string z1), .val (.string z2), .val (.bool z3), .val (.string z4), .val (.string z5)]) 35 .live]=>bif T.length==26 then some (okV 3 n f_ts&&okV 6 m f_ps&&κ n0 i j n (rowV 3 n f_ts) m (rowV 6 m f_ps) xb xn xd z0 z1 z2 z3 z4 z5, .exit 0,sh_sr n0 ((φ n0 i j n (rowV 3 n f_ts) m (rowV 6 m f_ps) xb xn xd z0 z1 z2 z3 z4 z5).1) ((φ n0 i j n (rowV 3 n f_ts) m (rowV 6 m f_ps) xb xn xd z0 z1 z2 z3 z4 z5).2) n (rowV 3 n f_ts) m (rowV 6 m f_ps) xb xn xd z0 z1 z2 z3 z4 z5,hp_sr n0 ((φ n0 i j n (rowV 3 n f_ts) m (rowV 6 m f_ps) xb xn xd z0 z1 z2 z3 z4 z5).1) ((φ n0 i j n (rowV 3 n f_ts) m (rowV 6 m f_ps) xb xn xd z0 z1 z2 z3 z4 z5).2) n (rowV 3 n f_ts) m (rowV 6 m f_ps) xb xn xd z0 z1 z2 z3 z4 z5) else none
 | _,_,_,_,_=>none
abbrev KT_sr:Type:=Int→Int→Int→Nat→List Value→Nat→List Value→Bool→ByteArray→ByteArray→Bool→ByteArray→ByteArray→Bool→ByteArray→ByteArray→Bool
abbrev FT_sr:Type:=Int→Int→Int→Nat→List Value→Nat→List Value→Bool→ByteArray→ByteArray→Bool→ByteArray→ByteArray→Bool→ByteArray→ByteArray→Int×Int
def LL_sr (κ:KT_sr) (φ:FT_sr) (L:LTab):LTab:=addLn 3 98 p_sr [0,1,5,6] (told_sr κ φ) L
def phi_sr (n0:Int) (i:Int) (j:Int) (n:Nat) (ts:List Value) (m:Nat) (ps:List Value) (xb:Bool) (xn:ByteArray) (xd:ByteArray) (z0:Bool) (z1:ByteArray) (z2:ByteArray) (z3:Bool) (z4:ByteArray) (z5:ByteArray):Int×Int:=Classical.epsilon fun ρ=>LoopToB Tryz.prog 3 (lb 98 p_sr) (sh_sr n0 i j n ts m ps xb xn xd z0 z1 z2 z3 z4 z5) (hp_sr n0 i j n ts m ps xb xn xd z0 z1 z2 z3 z4 z5) (.exit 0) (sh_sr n0 (ρ.1) (ρ.2) n ts m ps xb xn xd z0 z1 z2 z3 z4 z5) (hp_sr n0 (ρ.1) (ρ.2) n ts m ps xb xn xd z0 z1 z2 z3 z4 z5)∧post_sr n0 i j n ts m ps xb xn xd z0 z1 z2 z3 z4 z5 ρ
theorem phi_sr_spec (n0:Int) (i:Int) (j:Int) (n:Nat) (ts:List Value) (m:Nat) (ps:List Value) (xb:Bool) (xn:ByteArray) (xd:ByteArray) (z0:Bool) (z1:ByteArray) (z2:ByteArray) (z3:Bool) (z4:ByteArray) (z5:ByteArray) (h:pre_sr n0 i j n ts m ps xb xn xd z0 z1 z2 z3 z4 z5):LoopToB Tryz.prog 3 (lb 98 p_sr) (sh_sr n0 i j n ts m ps xb xn xd z0 z1 z2 z3 z4 z5) (hp_sr n0 i j n ts m ps xb xn xd z0 z1 z2 z3 z4 z5) (.exit 0) (sh_sr n0 ((phi_sr n0 i j n ts m ps xb xn xd z0 z1 z2 z3 z4 z5).1) ((phi_sr n0 i j n ts m ps xb xn xd z0 z1 z2 z3 z4 z5).2) n ts m ps xb xn xd z0 z1 z2 z3 z4 z5) (hp_sr n0 ((phi_sr n0 i j n ts m ps xb xn xd z0 z1 z2 z3 z4 z5).1) ((phi_sr n0 i j n ts m ps xb xn xd z0 z1 z2 z3 z4 z5).2) n ts m ps xb xn xd z0 z1 z2 z3 z4 z5)∧post_sr n0 i j n ts m ps xb xn xd z0 z1 z2 z3 z4 z5 (phi_sr n0 i j n ts m ps xb xn xd z0 z1 z2 z3 z4 z5):=Classical.epsilon_spec (loop_sr n0 i j n ts m ps xb xn xd z0 z1 z2 z3 z4 z5 h)
def cond_sr (n0:Int) (i:Int) (j:Int) (n:Nat) (ts:List Value) (m:Nat) (ps:List Value) (xb:Bool) (xn:ByteArray) (xd:ByteArray) (z0:Bool) (z1:ByteArray) (z2:ByteArray) (z3:Bool) (z4:ByteArray) (z5:ByteArray):Bool:= @decide (pre_sr n0 i j n ts m ps xb xn xd z0 z1 z2 z3 z4 z5) (Classical.propDecidable _)
theorem cond_sr_eq (n0:Int) (i:Int) (j:Int) (n:Nat) (ts:List Value) (m:Nat) (ps:List Value) (xb:Bool) (xn:ByteArray) (xd:ByteArray) (z0:Bool) (z1:ByteArray) (z2:ByteArray) (z3:Bool) (z4:ByteArray) (z5:ByteArray) (h:pre_sr n0 i j n ts m ps xb xn xd z0 z1 z2 z3 z4 z5):cond_sr n0 i j n ts m ps xb xn xd z0 z1 z2 z3 z4 z5=true:= @decide_eq_true _ (Classical.propDecidable _) h
theorem told_sr_ok (T:List AV) (H:Hp) (e:Ex) (T1:List AV) (H1:Hp) (h:told_sr cond_sr phi_sr T H=some (true,e,T1,H1)):V.Ends Tryz.prog false 3 0 (.loop (lb 98 p_sr)) T H e T1 H1:=by
 unfold told_sr at h
 split at h
 ·rename_i n0 i j n f_ts m f_ps xb xn xd z0 z1 z2 z3 z4 z5 h0 h1 h5 h6
  rw [Bool.cond_eq_ite] at h
  split at h
  ·rename_i hlen
   rw [beq_iff_eq] at hlen
   simp only [Option.some.injEq,Prod.mk.injEq,Bool.and_eq_true,decide_eq_true_eq] at h
   obtain ⟨⟨⟨k1,k2⟩,k3⟩,rfl,rfl,rfl⟩:=h
   have kc:= @of_decide_eq_true _ (Classical.propDecidable _) k3
   refine Ends.pre (Ends.preH (phi_sr_spec n0 i j n (rowV 3 n f_ts) m (rowV 6 m f_ps) xb xn xd z0 z1 z2 z3 z4 z5 kc).1.ends (sameH.cons ⟨⟨rfl,fun _ _ _ _ _ hh=>rel_trj (by kernel_rfl) (by kernel_rfl) k1 k2 hh⟩,rfl,rfl⟩ (sameH.cons (sameB.refl _) (sameH.cons (sameB.refl _) sameH.nil)))) (fun α B w D ys hr=>slots_rel hlen (fun p hp y hy=> ?_) hr)
   simp only [List.mem_cons,List.not_mem_nil,or_false] at hp
   rcases hp with rfl | rfl | rfl | rfl
   ·rw [h0] at hy;exact hy
   ·rw [h1] at hy;exact hy
   ·rw [h5] at hy;exact hy
   ·rw [h6] at hy;exact hy
  ·cases h
 ·cases h
theorem LL_sr_ok {L:LTab} (h:LOk Tryz.prog L):LOk Tryz.prog (LL_sr cond_sr phi_sr L):=h.add2n body_sr told_sr_ok
end
end Go.Proofs.YtamcpiicmfielaaGreat.L
namespace Go.Proofs.YtamcpiicmfielaaGreat.L
open Go Go.V Go.RowKit Go.Proofs.YtamcpiicmfielaaGreat.Sp
open Go.Proofs (Tryz.prog)
noncomputable section
structure Vg where
 okl:BA→BA→Bool
 at1:Rat→Rat→Rat→Rat
 plx:Nat→List Value→List Value→Rat→Rat
 ply:Nat→List Value→List Value→Rat→Rat
 pk:Nat→List Value→Nat→List Value→BA→BA→Bool
def p5 (f:Bool→BA→BA→Bool→BA→BA→Bool→BA→BA→Bool→BA→BA→Bool→BA→BA→Option (Bool×AV)):TF:=fun args=>match args with
 | [.agg [.val (.bool b), .val (.string n), .val (.string d), .val (.bool c), .val (.string m), .val (.string e)], .agg [.val (.bool b2), .val (.string n2), .val (.string d2), .val (.bool c2), .val (.string m2), .val (.string e2)], .agg [.val (.bool b3), .val (.string n3), .val (.string d3)]]=>f b n d c m e b2 n2 d2 c2 m2 e2 b3 n3 d3
 | _=>none
def tVAt (K:Hg) (V:Vg) (Z:Qg):TF:=p5 fun b n d c m e b2 n2 d2 c2 m2 e2 b3 n3 d3=>some (K.ok n d&&K.ok m e&&K.ok n2 d2&&K.ok m2 e2&&V.okl n3 d3,Z.pair (V.at1 (Z.qv b n d) (Z.qv b2 n2 d2) (Z.qv b3 n3 d3)) (V.at1 (Z.qv c m e) (Z.qv c2 m2 e2) (Z.qv b3 n3 d3)))
def at1N (a b t:Rat):Rat:=a+(b - a)*t
def pl1 (n:Nat) (ts:List Value) (c:Nat→Rat) (x:Rat):Rat:=
 if srN ts x n=0 then c 0 else if srN ts x n=n then c (n - 1) else at1N (c (srN ts x n - 1)) (c (srN ts x n)) ((x - qt ts (srN ts x n - 1)) / (qt ts (srN ts x n) - qt ts (srN ts x n - 1)))
structure PlOk (n:Nat) (ts:List Value) (m:Nat) (ps:List Value):Prop where
 eq:n=m
 pos:0 < n
 ts:TsOk n ts
 pts:∀ j,j < n→okQ ps j=true
 can:∀ j,j < n→kvP ps j=0
def pkN (n:Nat) (ts:List Value) (m:Nat) (ps:List Value) (xn xd:BA):Bool:= @decide (PlOk n ts m ps) (Classical.propDecidable _)&&okm xn xd
def vg0:Vg where
 okl n d:=decide (n.size≤100000)&&decide (d.size≤100000)
 at1:=at1N
 plx n ts ps x:=pl1 n ts (px ps) x
 ply n ts ps x:=pl1 n ts (py ps) x
 pk:=pkN
theorem okl_out {n d:BA} (h:vg0.okl n d=true):n.size≤100000∧d.size≤100000:=by
 have h2:(decide (n.size≤100000)&&decide (d.size≤100000))=true:=h
 rwa [Bool.and_eq_true,decide_eq_true_eq,decide_eq_true_eq] at h2
theorem okl_sz {b:Bool} {n d:BA} (h:vg0.okl n d=true):szq (sq0.qv b n d)≤100000:=by
 have:=szq_val b n d
 have:=okl_out h
 omega
theorem okl_q {n d:BA} (h:vg0.okl n d=true):sq0.ok n d=true:=qok_in (by have:=okl_out h;omega) (by have:=okl_out h;omega)
theorem at1_eq (a b t:Rat):vg0.at1 a b t=a+(b - a)*t:=rfl
theorem eVAt:Entry Tryz.prog 32 (tVAt hg0 vg0 sq0):=by
 refine entry_of (E:= ⟨CQd sq0,Kall,noL⟩) (u:=10) (d:=10) CQd_ok loops_none mixed (by kernel_rfl) (fun args r h=> ?_)
 unfold tVAt p5 at h
 split at h
 ·rename_i b n d c m e b2 n2 d2 c2 m2 e2 b3 n3 d3
  simp only [Option.some.injEq,Prod.mk.injEq,Bool.and_eq_true] at h
  obtain ⟨⟨⟨⟨⟨h1,h2⟩,h3⟩,h4⟩,h5⟩,rfl⟩:=h
  have hcall:=vat_tree sq0 b c b2 c2 b3 n d m e n2 d2 m2 e2 n3 d3
  have o1:=ok12_q h1
  have o2:=ok12_q h2
  have o3:=ok12_q h3
  have o4:=ok12_q h4
  have o5:=okl_q h5
  have s1:=ok12_sz (b:=b) h1
  have s2:=ok12_sz (b:=c) h2
  have s3:=ok12_sz (b:=b2) h3
  have s4:=ok12_sz (b:=c2) h4
  have s5:=okl_sz (b:=b3) h5
  rw [at1_eq,at1_eq]
  generalize sq0.qv b n d=x at*
  generalize sq0.qv c m e=y at*
  generalize sq0.qv b2 n2 d2=u at*
  generalize sq0.qv c2 m2 e2=v at*
  generalize sq0.qv b3 n3 d3=t at*
  have z1:=szq_sub u x
  have z2:=szq_sub v y
  have z3:=szq_mul (u - x) t
  have z4:=szq_mul (v - y) t
  have a1:=ok_rat (q:=u - x) (by omega)
  have a2:=ok_rat (q:=v - y) (by omega)
  have a3:=ok_rat (q:=(u - x)*t) (by omega)
  have a4:=ok_rat (q:=(v - y)*t) (by omega)
  simp only [qv_rat,o1,o2,o3,o4,o5,a1,a2,a3,a4,Bool.and_self,cond_true] at hcall
  exact hcall
 ·cases h
def CPl (K:Hg) (V:Vg) (Z:Qg):FuncId→TF:=addC 31 (gRR (tQSub Z)) (addC 42 (gRR (tQQuo Z)) (addC 32 (gPP (tVAt K V Z)) noC))
theorem place_call (K:Hg) (V:Vg) (Z:Qg) (κ:KT_sr) (φ:FT_sr) (n:Nat) (ts:List Value) (m:Nat) (ps:List Value) (xb:Bool) (xn xd:BA):letI q_8:=(rowV (3:Nat) n (vrow (3:Nat) ts));letI q_3:=(rowV (6:Nat) m (vrow (6:Nat) ps));letI q_2:=(φ (↑n:Int) (0:Int) (↑n:Int) n q_8 m q_3 xb xn xd false (ByteArray.mk #[]) (ByteArray.mk #[]) false (ByteArray.mk #[]) (ByteArray.mk #[]));letI q_15:=(q_8.getD ((q_2.fst - (1:Int)).toNat*(3:Nat)+(0:Nat)) undef);letI q_9:=(q_8.getD ((q_2.fst - (1:Int)).toNat*(3:Nat)+(1:Nat)) undef);letI q_10:=(q_8.getD ((q_2.fst - (1:Int)).toNat*(3:Nat)+(2:Nat)) undef);letI q_5:=(Z.qv xb xn xd - Z.qv (asB q_15) (asS q_9) (asS q_10));letI q_18:=(q_8.getD (q_2.fst.toNat*(3:Nat)+(1:Nat)) undef);letI q_19:=(q_8.getD (q_2.fst.toNat*(3:Nat)+(2:Nat)) undef);letI q_4:=(Z.qv (asB (q_8.getD (q_2.fst.toNat*(3:Nat)+(0:Nat)) undef)) (asS q_18) (asS q_19) - Z.qv (asB q_15) (asS q_9) (asS q_10));letI q_1:=(Z.qv (Z.qn q_5) (Z.qs q_5) (Z.qd q_5) / Z.qv (Z.qn q_4) (Z.qs q_4) (Z.qd q_4));letI q_16:=(q_3.getD ((q_2.fst - (1:Int)).toNat*(6:Nat)+(0:Nat)) undef);letI q_11:=(q_3.getD ((q_2.fst - (1:Int)).toNat*(6:Nat)+(1:Nat)) undef);letI q_12:=(q_3.getD ((q_2.fst - (1:Int)).toNat*(6:Nat)+(2:Nat)) undef);letI q_20:=(q_3.getD (q_2.fst.toNat*(6:Nat)+(1:Nat)) undef);letI q_21:=(q_3.getD (q_2.fst.toNat*(6:Nat)+(2:Nat)) undef);letI q_6:=(V.at1 (Z.qv (asB q_16) (asS q_11) (asS q_12)) (Z.qv (asB (q_3.getD (q_2.fst.toNat*(6:Nat)+(0:Nat)) undef)) (asS q_20) (asS q_21)) (Z.qv (Z.qn q_1) (Z.qs q_1) (Z.qd q_1)));letI q_17:=(q_3.getD ((q_2.fst - (1:Int)).toNat*(6:Nat)+(3:Nat)) undef);letI q_13:=(q_3.getD ((q_2.fst - (1:Int)).toNat*(6:Nat)+(4:Nat)) undef);letI q_14:=(q_3.getD ((q_2.fst - (1:Int)).toNat*(6:Nat)+(5:Nat)) undef);letI q_22:=(q_3.getD (q_2.fst.toNat*(6:Nat)+(4:Nat)) undef);letI q_23:=(q_3.getD (q_2.fst.toNat*(6:Nat)+(5:Nat)) undef);letI q_7:=(V.at1 (Z.qv (asB q_17) (asS q_13) (asS q_14)) (Z.qv (asB (q_3.getD (q_2.fst.toNat*(6:Nat)+(3:Nat)) undef)) (asS q_22) (asS q_23)) (Z.qv (Z.qn q_1) (Z.qs q_1) (Z.qd q_1)));
  (callA Tryz.prog ⟨CPl K V Z,KAw,LL_sr κ φ noL⟩ 10 10 50 [aTrj n ts m ps,w3 xb xn xd]=(bif okV (3:Nat) n (vrow (3:Nat) ts)&&okV (6:Nat) m (vrow (6:Nat) ps)&&κ (↑n:Int) (0:Int) (↑n:Int) n q_8 m q_3 xb xn xd false (ByteArray.mk #[]) (ByteArray.mk #[]) false (ByteArray.mk #[]) (ByteArray.mk #[]) then (bif decide (q_2.fst=(0:Int)) then (bif decide ((0:Int) < (↑m:Int)) then (bif [(fun q=>vrow (6:Nat) q_3 (Int.toNat (0:Int)) ((0:Nat)+q)) (nat_lit 0),(fun q=>vrow (6:Nat) q_3 (Int.toNat (0:Int)) ((0:Nat)+q)) (nat_lit 1),(fun q=>vrow (6:Nat) q_3 (Int.toNat (0:Int)) ((0:Nat)+q)) (nat_lit 2),(fun q=>vrow (6:Nat) q_3 (Int.toNat (0:Int)) ((0:Nat)+q)) (nat_lit 3),(fun q=>vrow (6:Nat) q_3 (Int.toNat (0:Int)) ((0:Nat)+q)) (nat_lit 4),(fun q=>vrow (6:Nat) q_3 (Int.toNat (0:Int)) ((0:Nat)+q)) (nat_lit 5)].all oneA then some (.agg [(.val (q_3.getD (0:Nat) undef)),(.val (q_3.getD (1:Nat) undef)),(.val (q_3.getD (2:Nat) undef)),(.val (q_3.getD (3:Nat) undef)),(.val (q_3.getD (4:Nat) undef)),(.val (q_3.getD (5:Nat) undef))]) else none) else none) else (bif decide (q_2.fst=(↑n:Int)) then (bif inR IntKind.i64 (q_2.fst - (1:Int)) then (bif decide ((0:Int)≤q_2.fst - (1:Int))&&decide (q_2.fst - (1:Int) < (↑m:Int)) then (bif [(fun q=>vrow (6:Nat) q_3 (q_2.fst - (1:Int)).toNat ((0:Nat)+q)) (nat_lit 0),(fun q=>vrow (6:Nat) q_3 (q_2.fst - (1:Int)).toNat ((0:Nat)+q)) (nat_lit 1),(fun q=>vrow (6:Nat) q_3 (q_2.fst - (1:Int)).toNat ((0:Nat)+q)) (nat_lit 2),(fun q=>vrow (6:Nat) q_3 (q_2.fst - (1:Int)).toNat ((0:Nat)+q)) (nat_lit 3),(fun q=>vrow (6:Nat) q_3 (q_2.fst - (1:Int)).toNat ((0:Nat)+q)) (nat_lit 4),(fun q=>vrow (6:Nat) q_3 (q_2.fst - (1:Int)).toNat ((0:Nat)+q)) (nat_lit 5)].all oneA then some (.agg [(.val q_16),(.val q_11),(.val q_12),(.val q_17),(.val q_13),(.val q_14)]) else none) else none) else none) else (bif inR IntKind.i64 (q_2.fst - (1:Int)) then (bif decide ((0:Int)≤q_2.fst - (1:Int))&&decide (q_2.fst - (1:Int) < (↑n:Int)) then (bif isRat q_15 q_9 q_10&&(Z.ok xn xd&&Z.ok (asS q_9) (asS q_10)) then (bif decide ((0:Int)≤q_2.fst)&&decide (q_2.fst < (↑n:Int)) then (bif inR IntKind.i64 (q_2.fst - (1:Int)) then (bif decide ((0:Int)≤q_2.fst - (1:Int))&&decide (q_2.fst - (1:Int) < (↑n:Int)) then (bif isRat (q_8.getD (q_2.fst.toNat*(3:Nat)+(0:Nat)) undef) q_18 q_19&&isRat q_15 q_9 q_10&&(Z.ok (asS q_18) (asS q_19)&&Z.ok (asS q_9) (asS q_10)) then (bif Z.ok (Z.qs q_5) (Z.qd q_5)&&Z.ok (Z.qs q_4) (Z.qd q_4) then (bif inR IntKind.i64 (q_2.fst - (1:Int)) then (bif decide ((0:Int)≤q_2.fst - (1:Int))&&decide (q_2.fst - (1:Int) < (↑m:Int)) then (bif decide ((0:Int)≤q_2.fst)&&decide (q_2.fst < (↑m:Int)) then (bif isRat q_16 q_11 q_12&&isRat q_17 q_13 q_14&&(isRat (q_3.getD (q_2.fst.toNat*(6:Nat)+(0:Nat)) undef) q_20 q_21&&isRat (q_3.getD (q_2.fst.toNat*(6:Nat)+(3:Nat)) undef) q_22 q_23)&&(K.ok (asS q_11) (asS q_12)&&K.ok (asS q_13) (asS q_14)&&K.ok (asS q_20) (asS q_21)&&K.ok (asS q_22) (asS q_23)&&V.okl (Z.qs q_1) (Z.qd q_1)) then some (.agg [(.val (.bool (Z.qn q_6))),(.val (.string (Z.qs q_6))),(.val (.string (Z.qd q_6))),(.val (.bool (Z.qn q_7))),(.val (.string (Z.qs q_7))),(.val (.string (Z.qd q_7)))]) else none) else none) else none) else none) else none) else none) else none) else none) else none) else none) else none) else none))) else none)):=by kernel_rfl
theorem ck_can {b:Bool} {n d:BA} (h:sq0.ck b n d=0):b=sq0.qn (sq0.qv b n d)∧n=sq0.qs (sq0.qv b n d)∧d=sq0.qd (sq0.qv b n d):=by
 have h2:(bif (b==qnn (qvn b n d))&&strEq n (qsn (qvn b n d))&&strEq d (qdn (qvn b n d)) then (0:Int) else 1)=0:=h
 cases hc:(b==qnn (qvn b n d))&&strEq n (qsn (qvn b n d))&&strEq d (qdn (qvn b n d)) with
 | false=>rw [hc] at h2;cases h2
 | true=>
  simp only [Bool.and_eq_true,beq_iff_eq,strEq_iff,decide_eq_true_eq] at hc
  exact ⟨hc.1.1,hc.1.2,hc.2⟩
theorem can_rat {x y z:Value} (h:isRat x y z=true) (hc:sq0.ck (asB x) (asS y) (asS z)=0):x= .bool (sq0.qn (sq0.qv (asB x) (asS y) (asS z)))∧y= .string (sq0.qs (sq0.qv (asB x) (asS y) (asS z)))∧z= .string (sq0.qd (sq0.qv (asB x) (asS y) (asS z))):=by
 obtain ⟨h1,h2,h3⟩:=isRat_out h
 obtain ⟨c1,c2,c3⟩:=ck_can hc
 exact ⟨by rw [← c1];exact h1,by rw [← c2];exact h2,by rw [← c3];exact h3⟩
theorem kv_can {ps:List Value} {j:Nat} (h:kvP ps j=0):sq0.ck (asB (ps.getD (j*6+0) undef)) (asS (ps.getD (j*6+1) undef)) (asS (ps.getD (j*6+2) undef))=0∧sq0.ck (asB (ps.getD (j*6+3) undef)) (asS (ps.getD (j*6+4) undef)) (asS (ps.getD (j*6+5) undef))=0:=by
 unfold kvP at h
 rw [kv_eq] at h
 cases hc:decide (sq0.ck (asB (ps.getD (j*6+0) undef)) (asS (ps.getD (j*6+1) undef)) (asS (ps.getD (j*6+2) undef))=0)&&decide (sq0.ck (asB (ps.getD (j*6+3) undef)) (asS (ps.getD (j*6+4) undef)) (asS (ps.getD (j*6+5) undef))=0) with
 | false=>rw [hc] at h;cases h
 | true=>rwa [Bool.and_eq_true,decide_eq_true_eq,decide_eq_true_eq] at hc
theorem can_pt {ps:List Value} {j:Nat} (h:okQ ps j=true) (hk:kvP ps j=0):AV.agg [.val (ps.getD (j*6+0) undef), .val (ps.getD (j*6+1) undef), .val (ps.getD (j*6+2) undef), .val (ps.getD (j*6+3) undef), .val (ps.getD (j*6+4) undef), .val (ps.getD (j*6+5) undef)]=sq0.pair (px ps j) (py ps j):=by
 obtain ⟨⟨k1,k2⟩,_,_⟩:=okQ_out h
 obtain ⟨c1,c2⟩:=kv_can hk
 obtain ⟨a1,a2,a3⟩:=can_rat k1 c1
 obtain ⟨b1,b2,b3⟩:=can_rat k2 c2
 unfold Qg.pair px py qat
 rw [← a1,← a2,← a3,← b1,← b2,← b3]
theorem one_pt {ps:List Value} {j:Nat} (h:okQ ps j=true): [vrow 6 ps j 0,vrow 6 ps j 1,vrow 6 ps j 2,vrow 6 ps j 3,vrow 6 ps j 4,vrow 6 ps j 5].all oneA=true:=by
 obtain ⟨⟨k1,k2⟩,_,_⟩:=okQ_out h
 obtain ⟨a1,a2,a3⟩:=isRat_out k1
 obtain ⟨b1,b2,b3⟩:=isRat_out k2
 unfold vrow
 rw [a1,a2,a3,b1,b2,b3];rfl
theorem okX_sz {ts:List Value} {j:Nat} (h:okX ts j=true):szq (qt ts j)≤1000:=by
 obtain ⟨_,h2⟩:=okX_out h
 have:=okm_out h2
 have:=szq_val (asB (ts.getD (j*3+0) undef)) (asS (ts.getD (j*3+1) undef)) (asS (ts.getD (j*3+2) undef))
 unfold qt
 omega
theorem okl_rat {q:Rat} (h:szq q≤100000):vg0.okl (sq0.qs q) (sq0.qd q)=true:=by
 unfold szq at h
 have h1:=size_qs q
 have h2:=size_qd q
 show (decide _&&decide _)=true
 rw [decide_eq_true (show (sq0.qs q).size≤100000 by omega),decide_eq_true (show (sq0.qd q).size≤100000 by omega)];rfl
theorem pkN_out {n:Nat} {ts:List Value} {m:Nat} {ps:List Value} {xn xd:BA} (h:pkN n ts m ps xn xd=true):PlOk n ts m ps∧okm xn xd=true:=by
 unfold pkN at h
 rw [Bool.and_eq_true] at h
 exact ⟨@of_decide_eq_true _ (Classical.propDecidable _) h.1,h.2⟩
theorem qt_eq (ts:List Value) (j:Nat):sq0.qv (asB (ts.getD (j*3+0) undef)) (asS (ts.getD (j*3+1) undef)) (asS (ts.getD (j*3+2) undef))=qt ts j:=rfl
theorem px_eq (ps:List Value) (j:Nat):sq0.qv (asB (ps.getD (j*6+0) undef)) (asS (ps.getD (j*6+1) undef)) (asS (ps.getD (j*6+2) undef))=px ps j:=rfl
theorem py_eq (ps:List Value) (j:Nat):sq0.qv (asB (ps.getD (j*6+3) undef)) (asS (ps.getD (j*6+4) undef)) (asS (ps.getD (j*6+5) undef))=py ps j:=rfl
def tPlace (V:Vg) (Z:Qg):TF:=fun args=>match args with
 | [.agg [.lst _ 27 n f, .lst _ 35 m g], .agg [.val (.bool xb), .val (.string xn), .val (.string xd)]]=>some (okV 3 n f&&okV 6 m g&&V.pk n (rowV 3 n f) m (rowV 6 m g) xn xd,Z.pair (V.plx n (rowV 3 n f) (rowV 6 m g) (Z.qv xb xn xd)) (V.ply n (rowV 3 n f) (rowV 6 m g) (Z.qv xb xn xd)))
 | _=>none
theorem CPl_ok:Meets Tryz.prog (CPl hg0 vg0 sq0):=(((meets_none _).add eVAt.gPP).add eQQuo.gRR).add eQSub.gRR
theorem place_val (n:Nat) (ts:List Value) (m:Nat) (ps:List Value) (xb:Bool) (xn xd:BA) (l1:ts.length=n*3) (l2:ps.length=m*6) (hk:pkN n ts m ps xn xd=true):
  callA Tryz.prog ⟨CPl hg0 vg0 sq0,KAw,LL_sr cond_sr phi_sr noL⟩ 10 10 50 [aTrj n ts m ps,w3 xb xn xd]=some (sq0.pair (pl1 n ts (px ps) (sq0.qv xb xn xd)) (pl1 n ts (py ps) (sq0.qv xb xn xd))):=by
 obtain ⟨hP,ho⟩:=pkN_out hk
 obtain rfl:=hP.eq
 have hq:pre_sr n 0 n n ts n ps xb xn xd false (ByteArray.mk #[]) (ByteArray.mk #[]) false (ByteArray.mk #[]) (ByteArray.mk #[]):= ⟨rfl,rfl,rfl,rfl,hP.ts,ho⟩
 have hs:=(phi_sr_spec _ _ _ _ _ _ _ _ _ _ _ _ _ _ _ _ hq).2
 have hs2:(phi_sr n 0 n n ts n ps xb xn xd false (ByteArray.mk #[]) (ByteArray.mk #[]) false (ByteArray.mk #[]) (ByteArray.mk #[])).fst=((srN ts (sq0.qv xb xn xd) n:Nat):Int):=hs
 obtain ⟨g1,g2,g3⟩:=srN_is ts (sq0.qv xb xn xd) n
 have hpos:=hP.pos
 have hlim:=hP.ts.lim
 rw [place_call,rowV_vrow l1,rowV_vrow l2,okV_vrow,okV_vrow,cond_sr_eq _ _ _ _ _ _ _ _ _ _ _ _ _ _ _ _ hq,hs2]
 unfold pl1
 have sx:szq (sq0.qv xb xn xd)≤1000:=by
  have:=okm_out ho
  have:=szq_val xb xn xd
  omega
 generalize srN ts (sq0.qv xb xn xd) n=s at*
 cases s with
 | zero=>
  rw [dT (show ((0:Nat):Int)=0 from rfl),dT (show (0:Int) < (n:Int) by omega),if_pos rfl,if_pos rfl]
  have h1:=one_pt (hP.pts 0 hpos)
  have h2:=can_pt (hP.pts 0 hpos) (hP.can 0 hpos)
  simp only [Int.toNat_zero,Nat.zero_add,h1,Bool.and_self,cond_true]
  exact congrArg some h2
 | succ k=>
  have e1:((k+1:Nat):Int) - 1=(k:Int):=by omega
  rw [dF (show ¬ ((k+1:Nat):Int)=0 by omega),if_neg (show ¬ k+1=0 by omega),if_neg (show ¬ k+1=0 by omega)]
  have hp1:=hP.pts k (by omega)
  have h1:=one_pt hp1
  have h2:=can_pt hp1 (hP.can k (by omega))
  by_cases hn:k+1=n
  ·rw [if_pos hn,if_pos hn,dT (show ((k+1:Nat):Int)=(n:Int) by omega)]
   simp only [e1,Int.toNat_natCast,Nat.zero_add,h1]
   rw [i64T (z:=(k:Int)) (by omega),dT (show (0:Int)≤(k:Int) by omega),dT (show (k:Int) < (n:Int) by omega),show n - 1=k by omega]
   exact congrArg some h2
  ·obtain ⟨⟨b1,b2⟩,b3,b4⟩:=okQ_out hp1
   obtain ⟨⟨c1,c2⟩,c3,c4⟩:=okQ_out (hP.pts (k+1) (by omega))
   obtain ⟨a1,a2⟩:=okX_out (hP.ts.ok k (by omega))
   obtain ⟨d1,d2⟩:=okX_out (hP.ts.ok (k+1) (by omega))
   have z1:=okX_sz (hP.ts.ok k (by omega))
   have z2:=okX_sz (hP.ts.ok (k+1) (by omega))
   rw [if_neg hn,if_neg hn,dF (show ¬ ((k+1:Nat):Int)=(n:Int) by omega)]
   simp only [e1,Int.toNat_natCast,qt_eq,px_eq,py_eq,qv_rat]
   have y1:=szq_sub (sq0.qv xb xn xd) (qt ts k)
   have y2:=szq_sub (qt ts (k+1)) (qt ts k)
   have y3:=szq_div (sq0.qv xb xn xd - qt ts k) (qt ts (k+1) - qt ts k)
   rw [i64T (z:=(k:Int)) (by omega),dT (show (0:Int)≤(k:Int) by omega),dT (show (k:Int) < (n:Int) by omega),dT (show (0:Int)≤((k+1:Nat):Int) by omega),dT (show ((k+1:Nat):Int) < (n:Int) by omega),a1,okm_q a2,d1,okm_q d2,okm_q ho,b1,b2,b3,b4,c1,c2,c3,c4,
    ok_rat (q:=sq0.qv xb xn xd - qt ts k) (by omega),ok_rat (q:=qt ts (k+1) - qt ts k) (by omega),okl_rat (q:=(sq0.qv xb xn xd - qt ts k) / (qt ts (k+1) - qt ts k)) (by omega)]
   rfl
theorem ePlace:Entry Tryz.prog 50 (tPlace vg0 sq0):=by
 refine entry_at (by kernel_rfl) (fun args r h=> ?_)
 unfold tPlace at h
 split at h
 ·rename_i fl n f fl2 m g xb xn xd
  simp only [Option.some.injEq,Prod.mk.injEq,Bool.and_eq_true] at h
  obtain ⟨⟨⟨h1,h2⟩,h3⟩,rfl⟩:=h
  exact ⟨⟨CPl hg0 vg0 sq0,KAw,LL_sr cond_sr phi_sr noL⟩,10,10,_,_,CPl_ok,(LL_sr_ok LOk.none).ok,place_val n _ m _ xb xn xd (rowV_len 3 n f) (rowV_len 6 m g) h3,ImpL.cons (imp_trj h1 h2) (ImpL.refl _),Imp.refl _⟩
 ·cases h
end
end Go.Proofs.YtamcpiicmfielaaGreat.L
