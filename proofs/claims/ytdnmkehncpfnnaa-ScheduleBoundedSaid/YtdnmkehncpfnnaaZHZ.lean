import Derived.Test.YtdnmkehncpfnnaaZHX
import Derived.Test.YtdnmkehncpfnnaaZQA
import Derived.Test.YtdnmkehncpfnnaaZMD
set_option linter.unusedVariables false
set_option linter.unusedSimpArgs false
namespace Go.Proofs.Ytdnmkehncpfnnaa.L
open Go Go.V Go.RowKit Go.Proofs.Ytdnmkehncpfnnaa.Sp
open Go.Proofs (Try.prog)
noncomputable section
def okT (ts:List Value) (j:Nat):Bool:=isRat (ts.getD (j*3+0) undef) (ts.getD (j*3+1) undef) (ts.getD (j*3+2) undef)
theorem isRat_k {x y z:Value} (h:isRat x y z=true):isB x=true∧isS y=true∧isS z=true:=by
 obtain ⟨h1,h2,h3⟩:=isRat_out h
 exact ⟨by rw [h1];rfl,by rw [h2];rfl,by rw [h3];rfl⟩
end
end Go.Proofs.Ytdnmkehncpfnnaa.L
namespace Go.Proofs.Ytdnmkehncpfnnaa.L
open Go Go.V Go.RowKit Go.Proofs.Ytdnmkehncpfnnaa.Sp
open Go.Proofs (Try.prog)
noncomputable section
def EKc (K:Hg) (Z:Qg):Env:= ⟨addC 24 (gR (tQCheck Z)) (addC 23 (gP (tVCheck K)) (addC 11 (gRR (tQCompare Z)) noC)),Kall,noL⟩
def okm (n d:BA):Bool:=decide (n.size≤1000)&&decide (d.size≤1000)
theorem okm_out {n d:BA} (h:okm n d=true):n.size≤1000∧d.size≤1000:=by
 unfold okm at h
 rwa [Bool.and_eq_true,decide_eq_true_eq,decide_eq_true_eq] at h
theorem okm_q {n d:BA} (h:okm n d=true):sq0.ok n d=true:=qok_in (by have:=okm_out h;omega) (by have:=okm_out h;omega)
def okX (ts:List Value) (j:Nat):Bool:=okT ts j&&okm (asS (ts.getD (j*3+1) undef)) (asS (ts.getD (j*3+2) undef))
theorem okX_out {ts:List Value} {j:Nat} (h:okX ts j=true):isRat (ts.getD (j*3+0) undef) (ts.getD (j*3+1) undef) (ts.getD (j*3+2) undef)=true∧okm (asS (ts.getD (j*3+1) undef)) (asS (ts.getD (j*3+2) undef))=true:=by
 unfold okX at h
 rwa [Bool.and_eq_true] at h
def badX (ts:List Value) (j:Nat):Bool:= !decide (sq0.ck (asB (ts.getD (j*3+0) undef)) (asS (ts.getD (j*3+1) undef)) (asS (ts.getD (j*3+2) undef))=0)
def qt (ts:List Value) (j:Nat):Rat:=sq0.qv (asB (ts.getD (j*3+0) undef)) (asS (ts.getD (j*3+1) undef)) (asS (ts.getD (j*3+2) undef))
def ckE (ts ps:List Value) (j:Nat):Int:=if badX ts j=true∨badP ps j=true then 1 else if 0 < j∧0≤sq0.cq (qt ts (j - 1)) (qt ts j) then 8 else 0
def ckL (ts ps:List Value):Nat→Int
 | 0=>0
 | n+1=>if ckL ts ps n=0 then ckE ts ps n else ckL ts ps n
def ckN (n:Nat) (ts:List Value) (m:Nat) (ps:List Value):Int:=if ¬ n=m then 9 else if n=0 then 11 else if 1000 < n then 4 else ckL ts ps n
theorem ckL_zero {ts ps:List Value} {n:Nat} (h:∀ j,j < n→ckE ts ps j=0):ckL ts ps n=0:=by
 induction n with
 | zero=>rfl
 | succ n ih=>
  unfold ckL
  rw [if_pos (ih fun j hj=>h j (by omega))]
  exact h n (by omega)
theorem ckL_err {ts ps:List Value} {k:Nat} (h:∀ j,j < k→ckE ts ps j=0) (hk:¬ ckE ts ps k=0) (d:Nat):ckL ts ps (k+1+d)=ckE ts ps k:=by
 induction d with
 | zero=>
  show ckL ts ps (k+1)=_
  unfold ckL
  rw [if_pos (ckL_zero h)]
 | succ d ih=>
  show ckL ts ps (k+1+d+1)=_
  unfold ckL
  rw [ih,if_neg hk]
theorem ckL_ok {ts ps:List Value} {n:Nat} (h:ckL ts ps n=0):∀ j,j < n→ckE ts ps j=0:=by
 induction n with
 | zero=>intro j hj;omega
 | succ n ih=>
  unfold ckL at h
  by_cases h0:ckL ts ps n=0
  ·rw [if_pos h0] at h
   intro j hj
   by_cases hj2:j=n
   ·subst hj2;exact h
   ·exact ih h0 j (by omega)
  ·rw [if_neg h0] at h
   exact absurd h h0
theorem one_rat {ts:List Value} {j:Nat} (h:okT ts j=true): [vrow 3 ts j 0,vrow 3 ts j 1,vrow 3 ts j 2].all oneA=true:=by
 obtain ⟨h1,h2,h3⟩:=isRat_out h
 unfold vrow
 rw [h1,h2,h3];rfl
theorem ckE_go {ts ps:List Value} {j:Nat} (h:ckE ts ps j=0):sq0.ck (asB (ts.getD (j*3+0) undef)) (asS (ts.getD (j*3+1) undef)) (asS (ts.getD (j*3+2) undef))=0∧kvP ps j=0∧(0 < j→¬ 0≤sq0.cq (qt ts (j - 1)) (qt ts j)):=by
 unfold ckE at h
 split at h
 ·cases h
 ·rename_i h1
  split at h
  ·cases h
  ·rename_i h2
   refine ⟨Classical.not_not.1 fun h3=>h1 (.inl ?_),Classical.not_not.1 fun h3=>h1 (.inr ?_),fun h3 h4=>h2 ⟨h3,h4⟩⟩
   ·unfold badX;rw [decide_eq_false h3];rfl
   ·unfold badP;rw [decide_eq_false h3];rfl
theorem ckE_stop {ts ps:List Value} {j:Nat} (h:¬ ckE ts ps j=0):(¬ sq0.ck (asB (ts.getD (j*3+0) undef)) (asS (ts.getD (j*3+1) undef)) (asS (ts.getD (j*3+2) undef))=0∧ckE ts ps j=1)∨
  (sq0.ck (asB (ts.getD (j*3+0) undef)) (asS (ts.getD (j*3+1) undef)) (asS (ts.getD (j*3+2) undef))=0∧¬ kvP ps j=0∧ckE ts ps j=1)∨
  (sq0.ck (asB (ts.getD (j*3+0) undef)) (asS (ts.getD (j*3+1) undef)) (asS (ts.getD (j*3+2) undef))=0∧kvP ps j=0∧0 < j∧0≤sq0.cq (qt ts (j - 1)) (qt ts j)∧ckE ts ps j=8):=by
 by_cases h1:sq0.ck (asB (ts.getD (j*3+0) undef)) (asS (ts.getD (j*3+1) undef)) (asS (ts.getD (j*3+2) undef))=0
 ·by_cases h2:kvP ps j=0
  ·have hn:¬ (badX ts j=true∨badP ps j=true):=by
    unfold badX badP
    rw [decide_eq_true h1,decide_eq_true h2]
    exact fun h=>h.elim (fun h=>by cases h) (fun h=>by cases h)
   by_cases h3:0 < j∧0≤sq0.cq (qt ts (j - 1)) (qt ts j)
   ·exact .inr (.inr ⟨h1,h2,h3.1,h3.2,by unfold ckE;rw [if_neg hn,if_pos h3]⟩)
   ·exact absurd (by unfold ckE;rw [if_neg hn,if_neg h3]) h
  ·exact .inr (.inl ⟨h1,h2,by unfold ckE;rw [if_pos (.inr (by unfold badP;rw [decide_eq_false h2];rfl))]⟩)
 ·exact .inl ⟨h1,by unfold ckE;rw [if_pos (.inl (by unfold badX;rw [decide_eq_false h1];rfl))]⟩
abbrev p_kc:List Bool:= [false,true,false,true,true]
def sh_kc (er:Int) (n1:Nat) (ts1:List Value) (n2:Int) (i:Int) (n:Nat) (ts:List Value) (m:Nat) (ps:List Value):List AV:=slots 57 [(1, .ptr 0 0),(2, .val (.int .i64 er)),(24, .lst false 24 n1 (vrow 3 ts1)),(25, .val (.int .i64 n2)),(26, .val (.int .i64 i))]
def hp_kc (er:Int) (n1:Nat) (ts1:List Value) (n2:Int) (i:Int) (n:Nat) (ts:List Value) (m:Nat) (ps:List Value):Hp:= [.row (.cells [.lst false 24 n (vrow 3 ts), .lst false 41 m (vrow 6 ps)]) 30 .live]
theorem body_kc:subC Try.prog 10 p_kc=some (.loop (lb 10 p_kc)):=by kernel_rfl
theorem code_kc:subC Try.prog 10 (false :: p_kc)=some (lb 10 p_kc):=by kernel_rfl
theorem round_kc (K:Hg) (Z:Qg) (er:Int) (n1:Nat) (ts1:List Value) (n2:Int) (i:Int) (n:Nat) (ts:List Value) (m:Nat) (ps:List Value):letI q_1:Option (Ex×List AV×Hp):=(bif inR IntKind.i64 (i+(1:Int)) then some (.normal,slots 57 [(1,(.ptr 0 0)),(2,(.val (.int .i64 er))),(24,(.lst false 24 n1 (vrow (3:Nat) ts1))),(25,(.val (.int .i64 n2))),(26,(.val (.int .i64 (i+(1:Int)))))], [(.row (.cells [(.lst false 24 n (vrow (3:Nat) ts)),(.lst false 41 m (vrow (6:Nat) ps))]) 30 .live)]) else none);letI q_2:=(ts1.getD (i.toNat*(3:Nat)+(1:Nat)) undef);letI q_3:=(ts1.getD (i.toNat*(3:Nat)+(2:Nat)) undef);letI q_4:=(ts1.getD (i.toNat*(3:Nat)+(0:Nat)) undef);letI q_5:=(ts.getD ((i - (1:Int)).toNat*(3:Nat)+(1:Nat)) undef);letI q_6:=(ts.getD ((i - (1:Int)).toNat*(3:Nat)+(2:Nat)) undef);letI q_7:=(ps.getD (i.toNat*(6:Nat)+(1:Nat)) undef);letI q_8:=(ps.getD (i.toNat*(6:Nat)+(2:Nat)) undef);letI q_9:=(ps.getD (i.toNat*(6:Nat)+(4:Nat)) undef);letI q_10:=(ps.getD (i.toNat*(6:Nat)+(5:Nat)) undef);
  (roundA Try.prog (EKc K Z) 10 [1,2,24,25,26] (lb 10 p_kc) (false :: p_kc) (sh_kc er n1 ts1 n2 i n ts m ps) (hp_kc er n1 ts1 n2 i n ts m ps)=(bif decide (i < n2) then (bif decide ((0:Int)≤i)&&decide (i < (↑n1:Int)) then (bif [(fun q=>vrow (3:Nat) ts1 i.toNat ((0:Nat)+q)) (nat_lit 0),(fun q=>vrow (3:Nat) ts1 i.toNat ((0:Nat)+q)) (nat_lit 1),(fun q=>vrow (3:Nat) ts1 i.toNat ((0:Nat)+q)) (nat_lit 2)].all oneA then (bif isRat q_4 q_2 q_3&&Z.ok (asS q_2) (asS q_3) then (bif !decide (Z.ck (asB q_4) (asS q_2) (asS q_3)=(0:Int)) then some (.ret,slots 57 [(1,(.ptr 0 0)),(2,(.val (.int .i64 1))),(24,(.lst false 24 n1 (vrow (3:Nat) ts1))),(25,(.val (.int .i64 n2))),(26,(.val (.int .i64 i)))], [(.row (.cells [(.lst false 24 n (vrow (3:Nat) ts)),(.lst false 41 m (vrow (6:Nat) ps))]) 30 .live)]) else (bif decide ((0:Int)≤i)&&decide (i < (↑m:Int)) then (bif isRat (ps.getD (i.toNat*(6:Nat)+(0:Nat)) undef) q_7 q_8&&isRat (ps.getD (i.toNat*(6:Nat)+(3:Nat)) undef) q_9 q_10&&(K.ok (asS q_7) (asS q_8)&&K.ok (asS q_9) (asS q_10)) then (bif !decide (K.kv (asB (ps.getD (i.toNat*(6:Nat)+(0:Nat)) undef)) (asS q_7) (asS q_8) (asB (ps.getD (i.toNat*(6:Nat)+(3:Nat)) undef)) (asS q_9) (asS q_10)=(0:Int)) then some (.ret,slots 57 [(1,(.ptr 0 0)),(2,(.val (.int .i64 1))),(24,(.lst false 24 n1 (vrow (3:Nat) ts1))),(25,(.val (.int .i64 n2))),(26,(.val (.int .i64 i)))], [(.row (.cells [(.lst false 24 n (vrow (3:Nat) ts)),(.lst false 41 m (vrow (6:Nat) ps))]) 30 .live)]) else (bif decide ((0:Int) < i) then (bif inR IntKind.i64 (i - (1:Int)) then (bif decide ((0:Int)≤i - (1:Int))&&decide (i - (1:Int) < (↑n:Int)) then (bif isRat (ts.getD ((i - (1:Int)).toNat*(3:Nat)+(0:Nat)) undef) q_5 q_6&&isRat q_4 q_2 q_3&&(Z.ok (asS q_5) (asS q_6)&&Z.ok (asS q_2) (asS q_3)) then (bif decide ((0:Int)≤Z.cq (Z.qv (asB (ts.getD ((i - (1:Int)).toNat*(3:Nat)+(0:Nat)) undef)) (asS q_5) (asS q_6)) (Z.qv (asB q_4) (asS q_2) (asS q_3))) then some (.ret,slots 57 [(1,(.ptr 0 0)),(2,(.val (.int .i64 8))),(24,(.lst false 24 n1 (vrow (3:Nat) ts1))),(25,(.val (.int .i64 n2))),(26,(.val (.int .i64 i)))], [(.row (.cells [(.lst false 24 n (vrow (3:Nat) ts)),(.lst false 41 m (vrow (6:Nat) ps))]) 30 .live)]) else q_1) else none) else none) else none) else q_1)) else none) else none)) else none) else none) else none) else some ((.exit 1),slots 57 [(1,(.ptr 0 0)),(2,(.val (.int .i64 er))),(24,(.lst false 24 n1 (vrow (3:Nat) ts1))),(25,(.val (.int .i64 n2))),(26,(.val (.int .i64 i)))], [(.row (.cells [(.lst false 24 n (vrow (3:Nat) ts)),(.lst false 41 m (vrow (6:Nat) ps))]) 30 .live)]))):=by kernel_rfl
theorem step_kc {er:Int} {n1:Nat} {ts1:List Value} {n2:Int} {i:Int} {n:Nat} {ts:List Value} {m:Nat} {ps:List Value} {e:Ex} {T:List AV} {H:Hp} (h:roundA Try.prog (EKc hg0 sq0) 10 [1,2,24,25,26] (lb 10 p_kc) (false :: p_kc) (sh_kc er n1 ts1 n2 i n ts m ps) (hp_kc er n1 ts1 n2 i n ts m ps)=some (e,T,H)):V.Ends Try.prog false 0 0 (lb 10 p_kc) (sh_kc er n1 ts1 n2 i n ts m ps) (hp_kc er n1 ts1 n2 i n ts m ps) e T H:=
 round_ends ((((meets_none _).add eQCompare.gRR).add eVCheck.gP).add eQCheck.gR) loops_none mixed code_kc h
section
variable {n : Nat} {ts ps : List Value} {er : Int}
theorem kc_step (i:Nat) (hi:i < n) (hn:n≤1000) (hx:∀ j,j < n→okX ts j=true) (hp:∀ j,j < n→okQ ps j=true) (h:ckE ts ps i=0):V.Ends Try.prog false 0 0 (lb 10 p_kc) (sh_kc er n ts (n:Int) i n ts n ps) (hp_kc er n ts (n:Int) i n ts n ps) .normal (sh_kc er n ts (n:Int) ((i+1:Nat):Int) n ts n ps) (hp_kc er n ts (n:Int) ((i+1:Nat):Int) n ts n ps):=by
 obtain ⟨g1,g2,g3⟩:=ckE_go h
 obtain ⟨a1,a2⟩:=okX_out (hx i hi)
 obtain ⟨⟨b1,b2⟩,b3,b4⟩:=okQ_out (hp i hi)
 have hr:=round_kc hg0 sq0 er n ts (n:Int) i n ts n ps
 simp only [Int.toNat_natCast,Nat.zero_add] at hr
 rw [dT (show (i:Int) < (n:Int) by omega),dT (show (0:Int)≤(i:Int) by omega),one_rat (show okT ts i=true from a1),a1,okm_q a2] at hr
 rw [dT g1,b1,b2,b3,b4,dT (show hg0.kv (asB (ps.getD (i*6+0) undef)) (asS (ps.getD (i*6+1) undef)) (asS (ps.getD (i*6+2) undef)) (asB (ps.getD (i*6+3) undef)) (asS (ps.getD (i*6+4) undef)) (asS (ps.getD (i*6+5) undef))=0 from g2)] at hr
 by_cases h0:i=0
 ·subst h0
  exact step_kc hr
 ·have g4:=g3 (by omega)
  obtain ⟨j,rfl⟩:∃ j,i=j+1:= ⟨i - 1,by omega⟩
  obtain ⟨c1,c2⟩:=okX_out (hx j (by omega))
  have e1:((j+1:Nat):Int) - 1=(j:Int):=by omega
  simp only [e1,Int.toNat_natCast] at hr
  rw [dT (show (0:Int) < ((j+1:Nat):Int) by omega),i64T (z:=(j:Int)) (by omega),dT (show (0:Int)≤(j:Int) by omega),dT (show (j:Int) < (n:Int) by omega),c1,okm_q c2,i64T (z:=((j+1:Nat):Int)+1) (by omega)] at hr
  have g5:¬ 0≤sq0.cq (sq0.qv (asB (ts.getD (j*3+0) undef)) (asS (ts.getD (j*3+1) undef)) (asS (ts.getD (j*3+2) undef))) (sq0.qv (asB (ts.getD ((j+1)*3+0) undef)) (asS (ts.getD ((j+1)*3+1) undef)) (asS (ts.getD ((j+1)*3+2) undef))):=g4
  rw [dF g5] at hr
  exact step_kc hr
theorem kc_stop (i:Nat) (hi:i < n) (hn:n≤1000) (hx:∀ j,j < n→okX ts j=true) (hp:∀ j,j < n→okQ ps j=true) (h:¬ ckE ts ps i=0):V.Ends Try.prog false 0 0 (lb 10 p_kc) (sh_kc er n ts (n:Int) i n ts n ps) (hp_kc er n ts (n:Int) i n ts n ps) .ret (sh_kc (ckE ts ps i) n ts (n:Int) i n ts n ps) (hp_kc (ckE ts ps i) n ts (n:Int) i n ts n ps):=by
 obtain ⟨a1,a2⟩:=okX_out (hx i hi)
 obtain ⟨⟨b1,b2⟩,b3,b4⟩:=okQ_out (hp i hi)
 have hr:=round_kc hg0 sq0 er n ts (n:Int) i n ts n ps
 simp only [Int.toNat_natCast,Nat.zero_add] at hr
 rw [dT (show (i:Int) < (n:Int) by omega),dT (show (0:Int)≤(i:Int) by omega),one_rat (show okT ts i=true from a1),a1,okm_q a2] at hr
 rcases ckE_stop h with ⟨g1,ge⟩ | ⟨g1,g2,ge⟩ | ⟨g1,g2,g3,g4,ge⟩ <;> rw [ge]
 ·rw [dF g1] at hr
  exact step_kc hr
 ·rw [dT g1,b1,b2,b3,b4,dF (show ¬ hg0.kv (asB (ps.getD (i*6+0) undef)) (asS (ps.getD (i*6+1) undef)) (asS (ps.getD (i*6+2) undef)) (asB (ps.getD (i*6+3) undef)) (asS (ps.getD (i*6+4) undef)) (asS (ps.getD (i*6+5) undef))=0 from g2)] at hr
  exact step_kc hr
 ·rw [dT g1,b1,b2,b3,b4,dT (show hg0.kv (asB (ps.getD (i*6+0) undef)) (asS (ps.getD (i*6+1) undef)) (asS (ps.getD (i*6+2) undef)) (asB (ps.getD (i*6+3) undef)) (asS (ps.getD (i*6+4) undef)) (asS (ps.getD (i*6+5) undef))=0 from g2)] at hr
  obtain ⟨j,rfl⟩:∃ j,i=j+1:= ⟨i - 1,by omega⟩
  obtain ⟨c1,c2⟩:=okX_out (hx j (by omega))
  have e1:((j+1:Nat):Int) - 1=(j:Int):=by omega
  simp only [e1,Int.toNat_natCast] at hr
  rw [dT (show (0:Int) < ((j+1:Nat):Int) by omega),i64T (z:=(j:Int)) (by omega),dT (show (0:Int)≤(j:Int) by omega),dT (show (j:Int) < (n:Int) by omega),c1,okm_q c2] at hr
  have g5:0≤sq0.cq (sq0.qv (asB (ts.getD (j*3+0) undef)) (asS (ts.getD (j*3+1) undef)) (asS (ts.getD (j*3+2) undef))) (sq0.qv (asB (ts.getD ((j+1)*3+0) undef)) (asS (ts.getD ((j+1)*3+1) undef)) (asS (ts.getD ((j+1)*3+2) undef))):=g4
  rw [dT g5] at hr
  exact step_kc hr
theorem kc_go (hn:n≤1000) (hx:∀ j,j < n→okX ts j=true) (hp:∀ j,j < n→okQ ps j=true) (h:∀ j,j < n→ckE ts ps j=0) (k:Nat):∀ i:Nat,n=i+k→LoopTo Try.prog (lb 10 p_kc) (sh_kc er n ts (n:Int) i n ts n ps) (hp_kc er n ts (n:Int) i n ts n ps) (.exit 1) (sh_kc er n ts (n:Int) n n ts n ps) (hp_kc er n ts (n:Int) n n ts n ps):=by
 induction k with
 | zero=>
  intro i hi
  have:i=n:=by omega
  subst this
  refine .last (step_kc ?_) (by intro h;cases h)
  rw [round_kc,dF (show ¬ ((i:Nat):Int) < (i:Int) by omega)]
  rfl
 | succ k ih=>
  intro i hi
  exact .more (kc_step i (by omega) hn hx hp (h i (by omega))) (ih (i+1) (by omega))
theorem ky_go (hn:n≤1000) (hx:∀ j,j < n→okX ts j=true) (hp:∀ j,j < n→okQ ps j=true) (q:Nat) (hq:q < n) (h:∀ j,j < q→ckE ts ps j=0) (he:¬ ckE ts ps q=0) (k:Nat):∀ i:Nat,q=i+k→LoopTo Try.prog (lb 10 p_kc) (sh_kc er n ts (n:Int) i n ts n ps) (hp_kc er n ts (n:Int) i n ts n ps) .ret (sh_kc (ckE ts ps q) n ts (n:Int) q n ts n ps) (hp_kc (ckE ts ps q) n ts (n:Int) q n ts n ps):=by
 induction k with
 | zero=>
  intro i hi
  have:i=q:=by omega
  subst this
  exact .last (kc_stop i hq hn hx hp he) (by intro h;cases h)
 | succ k ih=>
  intro i hi
  exact .more (kc_step i (by omega) hn hx hp (h i (by omega))) (ih (i+1) (by omega))
end
def pre_kc (er:Int) (n1:Nat) (ts1:List Value) (n2 i:Int) (n:Nat) (ts:List Value) (m:Nat) (ps:List Value):Prop:=n=n1∧ts=ts1∧n2=(n:Int)∧n=m∧i=0∧n≤1000∧(∀ j,j < n→okX ts j=true)∧(∀ j,j < n→okQ ps j=true)∧∀ j,j < n→ckE ts ps j=0
def post_kc (er:Int) (n1:Nat) (ts1:List Value) (n2 i:Int) (n:Nat) (ts:List Value) (m:Nat) (ps:List Value) (ρ:Int):Prop:=True
theorem loop_kc (er:Int) (n1:Nat) (ts1:List Value) (n2 i:Int) (n:Nat) (ts:List Value) (m:Nat) (ps:List Value) (h:pre_kc er n1 ts1 n2 i n ts m ps):∃ ρ:Int,LoopTo Try.prog (lb 10 p_kc) (sh_kc er n1 ts1 n2 i n ts m ps) (hp_kc er n1 ts1 n2 i n ts m ps) (.exit 1) (sh_kc er n1 ts1 n2 ρ n ts m ps) (hp_kc er n1 ts1 n2 ρ n ts m ps)∧post_kc er n1 ts1 n2 i n ts m ps ρ:=by
 obtain ⟨rfl,rfl,rfl,rfl,rfl,hn,hx,hp,h⟩:=h
 exact ⟨_,kc_go hn hx hp h _ 0 (Nat.zero_add _).symm,trivial⟩
def told_kc (κ:Int→Nat→List Value→Int→Int→Nat→List Value→Nat→List Value→Bool) (φ:Int→Nat→List Value→Int→Int→Nat→List Value→Nat→List Value→Int) (T:List AV) (H:Hp):Option (Bool×Ex×List AV×Hp):=
 match lget T 1,lget T 2,lget T 24,lget T 25,lget T 26,H with
 | .ptr 0 0, .val (.int .i64 er), .lst false 24 n1 f_ts1, .val (.int .i64 n2), .val (.int .i64 i), [.row (.cells [.lst false 24 n f_ts, .lst false 41 m f_ps]) 30 .live]=>bif T.length==57 then some (okV 3 n1 f_ts1&&okV 3 n f_ts&&okV 6 m f_ps&&κ er n1 (rowV 3 n1 f_ts1) n2 i n (rowV 3 n f_ts) m (rowV 6 m f_ps), .exit 1,sh_kc er n1 (rowV 3 n1 f_ts1) n2 ((φ er n1 (rowV 3 n1 f_ts1) n2 i n (rowV 3 n f_ts) m (rowV 6 m f_ps))) n (rowV 3 n f_ts) m (rowV 6 m f_ps),hp_kc er n1 (rowV 3 n1 f_ts1) n2 ((φ er n1 (rowV 3 n1 f_ts1) n2 i n (rowV 3 n f_ts) m (rowV 6 m f_ps))) n (rowV 3 n f_ts) m (rowV 6 m f_ps)) else none
 | _,_,_,_,_,_=>none
abbrev KT_kc:Type:=Int→Nat→List Value→Int→Int→Nat→List Value→Nat→List Value→Bool
abbrev FT_kc:Type:=Int→Nat→List Value→Int→Int→Nat→List Value→Nat→List Value→Int
def LL_kc (κ:KT_kc) (φ:FT_kc) (L:LTab):LTab:=addLn 0 10 p_kc [1,2,24,25,26] (told_kc κ φ) L
def phi_kc (er:Int) (n1:Nat) (ts1:List Value) (n2:Int) (i:Int) (n:Nat) (ts:List Value) (m:Nat) (ps:List Value):Int:=Classical.epsilon fun ρ=>LoopTo Try.prog (lb 10 p_kc) (sh_kc er n1 ts1 n2 i n ts m ps) (hp_kc er n1 ts1 n2 i n ts m ps) (.exit 1) (sh_kc er n1 ts1 n2 (ρ) n ts m ps) (hp_kc er n1 ts1 n2 (ρ) n ts m ps)∧post_kc er n1 ts1 n2 i n ts m ps ρ
theorem phi_kc_spec (er:Int) (n1:Nat) (ts1:List Value) (n2:Int) (i:Int) (n:Nat) (ts:List Value) (m:Nat) (ps:List Value) (h:pre_kc er n1 ts1 n2 i n ts m ps):LoopTo Try.prog (lb 10 p_kc) (sh_kc er n1 ts1 n2 i n ts m ps) (hp_kc er n1 ts1 n2 i n ts m ps) (.exit 1) (sh_kc er n1 ts1 n2 ((phi_kc er n1 ts1 n2 i n ts m ps)) n ts m ps) (hp_kc er n1 ts1 n2 ((phi_kc er n1 ts1 n2 i n ts m ps)) n ts m ps)∧post_kc er n1 ts1 n2 i n ts m ps (phi_kc er n1 ts1 n2 i n ts m ps):=Classical.epsilon_spec (loop_kc er n1 ts1 n2 i n ts m ps h)
def cond_kc (er:Int) (n1:Nat) (ts1:List Value) (n2:Int) (i:Int) (n:Nat) (ts:List Value) (m:Nat) (ps:List Value):Bool:= @decide (pre_kc er n1 ts1 n2 i n ts m ps) (Classical.propDecidable _)
theorem cond_kc_eq (er:Int) (n1:Nat) (ts1:List Value) (n2:Int) (i:Int) (n:Nat) (ts:List Value) (m:Nat) (ps:List Value) (h:pre_kc er n1 ts1 n2 i n ts m ps):cond_kc er n1 ts1 n2 i n ts m ps=true:= @decide_eq_true _ (Classical.propDecidable _) h
theorem told_kc_ok (T:List AV) (H:Hp) (e:Ex) (T1:List AV) (H1:Hp) (h:told_kc cond_kc phi_kc T H=some (true,e,T1,H1)):V.Ends Try.prog false 0 0 (.loop (lb 10 p_kc)) T H e T1 H1:=by
 unfold told_kc at h
 split at h
 ·rename_i er n1 f_ts1 n2 i n f_ts m f_ps h1 h2 h24 h25 h26
  rw [Bool.cond_eq_ite] at h
  split at h
  ·rename_i hlen
   rw [beq_iff_eq] at hlen
   simp only [Option.some.injEq,Prod.mk.injEq,Bool.and_eq_true,decide_eq_true_eq] at h
   obtain ⟨⟨⟨⟨k1,k2⟩,k3⟩,k4⟩,rfl,rfl,rfl⟩:=h
   have kc:= @of_decide_eq_true _ (Classical.propDecidable _) k4
   refine Ends.pre (Ends.preH (phi_kc_spec er n1 (rowV 3 n1 f_ts1) n2 i n (rowV 3 n f_ts) m (rowV 6 m f_ps) kc).1.ends (sameH.cons ⟨⟨rfl,fun _ _ _ _ _ hh=>rel_trj (by kernel_rfl) (by kernel_rfl) k2 k3 hh⟩,rfl,rfl⟩ sameH.nil)) (fun α B w D ys hr=>slots_rel hlen (fun p hp y hy=> ?_) hr)
   simp only [List.mem_cons,List.not_mem_nil,or_false] at hp
   rcases hp with rfl | rfl | rfl | rfl | rfl
   ·rw [h1] at hy;exact hy
   ·rw [h2] at hy;exact hy
   ·rw [h24] at hy;exact row_normV (by kernel_rfl) k1 hy
   ·rw [h25] at hy;exact hy
   ·rw [h26] at hy;exact hy
  ·cases h
 ·cases h
theorem LL_kc_ok {L:LTab} (h:LOk Try.prog L):LOk Try.prog (LL_kc cond_kc phi_kc L):=h.add2n body_kc told_kc_ok
abbrev p_ky:List Bool:= [false,true,false,true,true]
def sh_ky (er:Int) (n1:Nat) (ts1:List Value) (n2:Int) (i:Int) (n:Nat) (ts:List Value) (m:Nat) (ps:List Value):List AV:=slots 57 [(1, .ptr 0 0),(2, .val (.int .i64 er)),(24, .lst false 24 n1 (vrow 3 ts1)),(25, .val (.int .i64 n2)),(26, .val (.int .i64 i))]
def hp_ky (er:Int) (n1:Nat) (ts1:List Value) (n2:Int) (i:Int) (n:Nat) (ts:List Value) (m:Nat) (ps:List Value):Hp:= [.row (.cells [.lst false 24 n (vrow 3 ts), .lst false 41 m (vrow 6 ps)]) 30 .live]
theorem body_ky:subC Try.prog 10 p_ky=some (.loop (lb 10 p_ky)):=by kernel_rfl
def pre_ky (er:Int) (n1:Nat) (ts1:List Value) (n2 i:Int) (n:Nat) (ts:List Value) (m:Nat) (ps:List Value):Prop:=n=n1∧ts=ts1∧n2=(n:Int)∧n=m∧i=0∧n≤1000∧(∀ j,j < n→okX ts j=true)∧(∀ j,j < n→okQ ps j=true)∧∃ q,q < n∧(∀ j,j < q→ckE ts ps j=0)∧¬ ckE ts ps q=0
def post_ky (er:Int) (n1:Nat) (ts1:List Value) (n2 i:Int) (n:Nat) (ts:List Value) (m:Nat) (ps:List Value) (ρ:Int×Int):Prop:=ρ.1=ckL ts ps n
theorem loop_ky (er:Int) (n1:Nat) (ts1:List Value) (n2 i:Int) (n:Nat) (ts:List Value) (m:Nat) (ps:List Value) (h:pre_ky er n1 ts1 n2 i n ts m ps):∃ ρ:Int×Int,LoopTo Try.prog (lb 10 p_ky) (sh_ky er n1 ts1 n2 i n ts m ps) (hp_ky er n1 ts1 n2 i n ts m ps) .ret (sh_ky ρ.1 n1 ts1 n2 ρ.2 n ts m ps) (hp_ky ρ.1 n1 ts1 n2 ρ.2 n ts m ps)∧post_ky er n1 ts1 n2 i n ts m ps ρ:=by
 obtain ⟨rfl,rfl,rfl,rfl,rfl,hn,hx,hp,q,hq,h,he⟩:=h
 have e:=ckL_err h he (n - (q+1))
 rw [show q+1+(n - (q+1))=n by omega] at e
 exact ⟨(ckE ts ps q,(q:Int)),ky_go hn hx hp q hq h he q 0 (by omega),e.symm⟩
def told_ky (κ:Int→Nat→List Value→Int→Int→Nat→List Value→Nat→List Value→Bool) (φ:Int→Nat→List Value→Int→Int→Nat→List Value→Nat→List Value→Int×Int) (T:List AV) (H:Hp):Option (Bool×Ex×List AV×Hp):=
 match lget T 1,lget T 2,lget T 24,lget T 25,lget T 26,H with
 | .ptr 0 0, .val (.int .i64 er), .lst false 24 n1 f_ts1, .val (.int .i64 n2), .val (.int .i64 i), [.row (.cells [.lst false 24 n f_ts, .lst false 41 m f_ps]) 30 .live]=>bif T.length==57 then some (okV 3 n1 f_ts1&&okV 3 n f_ts&&okV 6 m f_ps&&κ er n1 (rowV 3 n1 f_ts1) n2 i n (rowV 3 n f_ts) m (rowV 6 m f_ps), .ret,sh_ky ((φ er n1 (rowV 3 n1 f_ts1) n2 i n (rowV 3 n f_ts) m (rowV 6 m f_ps)).1) n1 (rowV 3 n1 f_ts1) n2 ((φ er n1 (rowV 3 n1 f_ts1) n2 i n (rowV 3 n f_ts) m (rowV 6 m f_ps)).2) n (rowV 3 n f_ts) m (rowV 6 m f_ps),hp_ky ((φ er n1 (rowV 3 n1 f_ts1) n2 i n (rowV 3 n f_ts) m (rowV 6 m f_ps)).1) n1 (rowV 3 n1 f_ts1) n2 ((φ er n1 (rowV 3 n1 f_ts1) n2 i n (rowV 3 n f_ts) m (rowV 6 m f_ps)).2) n (rowV 3 n f_ts) m (rowV 6 m f_ps)) else none
 | _,_,_,_,_,_=>none
abbrev KT_ky:Type:=Int→Nat→List Value→Int→Int→Nat→List Value→Nat→List Value→Bool
abbrev FT_ky:Type:=Int→Nat→List Value→Int→Int→Nat→List Value→Nat→List Value→Int×Int
def LL_ky (κ:KT_ky) (φ:FT_ky) (L:LTab):LTab:=addLn 0 10 p_ky [1,2,24,25,26] (told_ky κ φ) L
def phi_ky (er:Int) (n1:Nat) (ts1:List Value) (n2:Int) (i:Int) (n:Nat) (ts:List Value) (m:Nat) (ps:List Value):Int×Int:=Classical.epsilon fun ρ=>LoopTo Try.prog (lb 10 p_ky) (sh_ky er n1 ts1 n2 i n ts m ps) (hp_ky er n1 ts1 n2 i n ts m ps) (.ret) (sh_ky (ρ.1) n1 ts1 n2 (ρ.2) n ts m ps) (hp_ky (ρ.1) n1 ts1 n2 (ρ.2) n ts m ps)∧post_ky er n1 ts1 n2 i n ts m ps ρ
theorem phi_ky_spec (er:Int) (n1:Nat) (ts1:List Value) (n2:Int) (i:Int) (n:Nat) (ts:List Value) (m:Nat) (ps:List Value) (h:pre_ky er n1 ts1 n2 i n ts m ps):LoopTo Try.prog (lb 10 p_ky) (sh_ky er n1 ts1 n2 i n ts m ps) (hp_ky er n1 ts1 n2 i n ts m ps) (.ret) (sh_ky ((phi_ky er n1 ts1 n2 i n ts m ps).1) n1 ts1 n2 ((phi_ky er n1 ts1 n2 i n ts m ps).2) n ts m ps) (hp_ky ((phi_ky er n1 ts1 n2 i n ts m ps).1) n1 ts1 n2 ((phi_ky er n1 ts1 n2 i n ts m ps).2) n ts m ps)∧post_ky er n1 ts1 n2 i n ts m ps (phi_ky er n1 ts1 n2 i n ts m ps):=Classical.epsilon_spec (loop_ky er n1 ts1 n2 i n ts m ps h)
def cond_ky (er:Int) (n1:Nat) (ts1:List Value) (n2:Int) (i:Int) (n:Nat) (ts:List Value) (m:Nat) (ps:List Value):Bool:= @decide (pre_ky er n1 ts1 n2 i n ts m ps) (Classical.propDecidable _)
theorem cond_ky_eq (er:Int) (n1:Nat) (ts1:List Value) (n2:Int) (i:Int) (n:Nat) (ts:List Value) (m:Nat) (ps:List Value) (h:pre_ky er n1 ts1 n2 i n ts m ps):cond_ky er n1 ts1 n2 i n ts m ps=true:= @decide_eq_true _ (Classical.propDecidable _) h
theorem told_ky_ok (T:List AV) (H:Hp) (e:Ex) (T1:List AV) (H1:Hp) (h:told_ky cond_ky phi_ky T H=some (true,e,T1,H1)):V.Ends Try.prog false 0 0 (.loop (lb 10 p_ky)) T H e T1 H1:=by
 unfold told_ky at h
 split at h
 ·rename_i er n1 f_ts1 n2 i n f_ts m f_ps h1 h2 h24 h25 h26
  rw [Bool.cond_eq_ite] at h
  split at h
  ·rename_i hlen
   rw [beq_iff_eq] at hlen
   simp only [Option.some.injEq,Prod.mk.injEq,Bool.and_eq_true,decide_eq_true_eq] at h
   obtain ⟨⟨⟨⟨k1,k2⟩,k3⟩,k4⟩,rfl,rfl,rfl⟩:=h
   have kc:= @of_decide_eq_true _ (Classical.propDecidable _) k4
   refine Ends.pre (Ends.preH (phi_ky_spec er n1 (rowV 3 n1 f_ts1) n2 i n (rowV 3 n f_ts) m (rowV 6 m f_ps) kc).1.ends (sameH.cons ⟨⟨rfl,fun _ _ _ _ _ hh=>rel_trj (by kernel_rfl) (by kernel_rfl) k2 k3 hh⟩,rfl,rfl⟩ sameH.nil)) (fun α B w D ys hr=>slots_rel hlen (fun p hp y hy=> ?_) hr)
   simp only [List.mem_cons,List.not_mem_nil,or_false] at hp
   rcases hp with rfl | rfl | rfl | rfl | rfl
   ·rw [h1] at hy;exact hy
   ·rw [h2] at hy;exact hy
   ·rw [h24] at hy;exact row_normV (by kernel_rfl) k1 hy
   ·rw [h25] at hy;exact hy
   ·rw [h26] at hy;exact hy
  ·cases h
 ·cases h
theorem LL_ky_ok {L:LTab} (h:LOk Try.prog L):LOk Try.prog (LL_ky cond_ky phi_ky L):=h.add2n body_ky told_ky_ok
end
end Go.Proofs.Ytdnmkehncpfnnaa.L
namespace Go.Proofs.Ytdnmkehncpfnnaa.L
open Go Go.V Go.RowKit Go.Proofs.Ytdnmkehncpfnnaa.Sp
open Go.Proofs (Try.prog)
noncomputable section
abbrev aTrj (n:Nat) (ts:List Value) (m:Nat) (ps:List Value):AV:= .agg [.lst false 24 n (vrow 3 ts), .lst false 41 m (vrow 6 ps)]
structure Cg where
 ck:Nat→List Value→Nat→List Value→Int
 ko:Nat→List Value→Nat→List Value→Bool
def koN (n:Nat) (ts:List Value) (m:Nat) (ps:List Value):Bool:=(List.range n).all (okX ts)&&(List.range m).all (okQ ps)
def cg0:Cg where
 ck:=ckN
 ko:=koN
theorem koN_out {n:Nat} {ts:List Value} {m:Nat} {ps:List Value} (h:koN n ts m ps=true):(∀ j,j < n→okX ts j=true)∧∀ j,j < m→okQ ps j=true:=by
 unfold koN at h
 rw [Bool.and_eq_true] at h
 exact ⟨fun j hj=>all_lt h.1 hj,fun j hj=>all_lt h.2 hj⟩
def tChk (G:Cg):TF:=fun args=>match args with
 | [.agg [.lst _ 24 n f, .lst _ 41 m g]]=>some (okV 3 n f&&okV 6 m g&&G.ko n (rowV 3 n f) m (rowV 6 m g), .val (.int .i64 (G.ck n (rowV 3 n f) m (rowV 6 m g))))
 | _=>none
theorem kc_call (κ:KT_kc) (φ:FT_kc) (n:Nat) (ts:List Value) (m:Nat) (ps:List Value):callA Try.prog ⟨noC,Kall,LL_kc κ φ noL⟩ 10 10 10 [aTrj n ts m ps]=
  (bif !decide ((↑n:Int)=(↑m:Int)) then some (.val (.int .i64 9)) else (bif decide ((↑n:Int)=(0:Int)) then some (.val (.int .i64 11)) else (bif decide ((1000:Int) < (↑n:Int)) then some (.val (.int .i64 4)) else (bif okV (3:Nat) n (vrow (3:Nat) ts)&&okV (3:Nat) n (vrow (3:Nat) ts)&&okV (6:Nat) m (vrow (6:Nat) ps)&&κ (0:Int) n (rowV (3:Nat) n (vrow (3:Nat) ts)) (↑n:Int) (0:Int) n (rowV (3:Nat) n (vrow (3:Nat) ts)) m (rowV (6:Nat) m (vrow (6:Nat) ps)) then some (.val (.int .i64 0)) else none)))):=by kernel_rfl
theorem ky_call (κ:KT_ky) (φ:FT_ky) (n:Nat) (ts:List Value) (m:Nat) (ps:List Value):callA Try.prog ⟨noC,Kall,LL_ky κ φ noL⟩ 10 10 10 [aTrj n ts m ps]=
  (bif !decide ((↑n:Int)=(↑m:Int)) then some (.val (.int .i64 9)) else (bif decide ((↑n:Int)=(0:Int)) then some (.val (.int .i64 11)) else (bif decide ((1000:Int) < (↑n:Int)) then some (.val (.int .i64 4)) else (bif okV (3:Nat) n (vrow (3:Nat) ts)&&okV (3:Nat) n (vrow (3:Nat) ts)&&okV (6:Nat) m (vrow (6:Nat) ps)&&κ (0:Int) n (rowV (3:Nat) n (vrow (3:Nat) ts)) (↑n:Int) (0:Int) n (rowV (3:Nat) n (vrow (3:Nat) ts)) m (rowV (6:Nat) m (vrow (6:Nat) ps)) then some (.val (.int .i64 ((φ (0:Int) n (rowV (3:Nat) n (vrow (3:Nat) ts)) (↑n:Int) (0:Int) n (rowV (3:Nat) n (vrow (3:Nat) ts)) m (rowV (6:Nat) m (vrow (6:Nat) ps))).fst))) else none)))):=by kernel_rfl
theorem imp_trj {fl fl2:Bool} {n m:Nat} {f g:Nat→Nat→AV} (h1:okV 3 n f=true) (h2:okV 6 m g=true):Imp (.agg [.lst fl 24 n f, .lst fl2 41 m g]) (aTrj n (rowV 3 n f) m (rowV 6 m g)):=
 Imp.agg (ImpL.cons (Imp.row (by kernel_rfl) h1) (ImpL.cons (Imp.row (by kernel_rfl) h2) (ImpL.refl _)))
theorem chk_entry {f:FuncId} (hok:okFn Try.prog f=true) (H:∀ (n:Nat) (ts:List Value) (m:Nat) (ps:List Value),ts.length=n*3→ps.length=m*6→koN n ts m ps=true→∃ (E:Env) (u d:Nat),Meets Try.prog E.C∧LoopsOk Try.prog E∧callA Try.prog E u d f [aTrj n ts m ps]=some (.val (.int .i64 (ckN n ts m ps)))):Entry Try.prog f (tChk cg0):=by
 refine entry_at hok (fun args r h=> ?_)
 unfold tChk at h
 split at h
 ·rename_i fl n fn fl2 m gn
  simp only [Option.some.injEq,Prod.mk.injEq,Bool.and_eq_true] at h
  obtain ⟨⟨⟨h1,h2⟩,h3⟩,rfl⟩:=h
  obtain ⟨E,u,d,c1,c2,c3⟩:=H n (rowV 3 n fn) m (rowV 6 m gn) (rowV_len 3 n fn) (rowV_len 6 m gn) h3
  exact ⟨E,u,d,_,_,c1,c2,c3,ImpL.cons (imp_trj h1 h2) (ImpL.refl _),Imp.refl _⟩
 ·cases h
theorem kc_val (n:Nat) (ts:List Value) (m:Nat) (ps:List Value) (l1:ts.length=n*3) (l2:ps.length=m*6) (ho:koN n ts m ps=true):∃ (E:Env) (u d:Nat),Meets Try.prog E.C∧LoopsOk Try.prog E∧callA Try.prog E u d 10 [aTrj n ts m ps]=some (.val (.int .i64 (ckN n ts m ps))):=by
 obtain ⟨hx,hp⟩:=koN_out ho
 by_cases hk:ckL ts ps n=0
 ·
  refine ⟨⟨noC,Kall,LL_kc cond_kc phi_kc noL⟩,10,10,meets_none _,(LL_kc_ok LOk.none).ok, ?_⟩
  rw [kc_call]
  by_cases h0:n=m
  ·subst h0
   rw [dT (show (n:Int)=n from rfl)]
   by_cases h1:n=0
   ·rw [dT (show (n:Int)=0 by omega)]
    unfold ckN
    rw [if_neg (fun h=>h rfl),if_pos h1];rfl
   rw [dF (show ¬ (n:Int)=0 by omega)]
   by_cases h2:1000 < n
   ·rw [dT (show (1000:Int) < n by omega)]
    unfold ckN
    rw [if_neg (fun h=>h rfl),if_neg h1,if_pos h2];rfl
   rw [dF (show ¬ (1000:Int) < n by omega),rowV_vrow l1,rowV_vrow l2,okV_vrow,okV_vrow]
   unfold ckN
   rw [if_neg (fun h=>h rfl),if_neg h1,if_neg h2]
   have hq:pre_kc 0 n ts n 0 n ts n ps:= ⟨rfl,rfl,rfl,rfl,rfl,by omega,hx,hp,ckL_ok hk⟩
   rw [cond_kc_eq _ _ _ _ _ _ _ _ _ hq]
   rw [hk];rfl
  ·rw [dF (show ¬ (n:Int)=(m:Int) by omega)]
   unfold ckN
   rw [if_pos h0];rfl
 ·
  refine ⟨⟨noC,Kall,LL_ky cond_ky phi_ky noL⟩,10,10,meets_none _,(LL_ky_ok LOk.none).ok, ?_⟩
  rw [ky_call]
  by_cases h0:n=m
  ·subst h0
   rw [dT (show (n:Int)=n from rfl)]
   by_cases h1:n=0
   ·rw [dT (show (n:Int)=0 by omega)]
    unfold ckN
    rw [if_neg (fun h=>h rfl),if_pos h1];rfl
   rw [dF (show ¬ (n:Int)=0 by omega)]
   by_cases h2:1000 < n
   ·rw [dT (show (1000:Int) < n by omega)]
    unfold ckN
    rw [if_neg (fun h=>h rfl),if_neg h1,if_pos h2];rfl
   rw [dF (show ¬ (1000:Int) < n by omega),rowV_vrow l1,rowV_vrow l2,okV_vrow,okV_vrow]
   unfold ckN
   rw [if_neg (fun h=>h rfl),if_neg h1,if_neg h2]
   have hq:pre_ky 0 n ts n 0 n ts n ps:=by
    refine ⟨rfl,rfl,rfl,rfl,rfl,by omega,hx,hp, ?_⟩
    have hany:(List.range n).any (fun j=> !decide (ckE ts ps j=0))=true:=by
     rw [List.any_eq_true]
     apply Classical.byContradiction
     intro hno
     refine hk (ckL_zero fun j hj=>Classical.byContradiction fun he=>hno ⟨j,List.mem_range.2 hj, ?_⟩)
     rw [decide_eq_false he];rfl
    obtain ⟨q,q1,q2,q3⟩:=first_of n hany
    refine ⟨q,q1,fun j hj=> ?_, ?_⟩
    ·have:=q2 j hj
     rwa [Bool.not_eq_false',decide_eq_true_eq] at this
    ·rwa [Bool.not_eq_true',decide_eq_false_iff_not] at q3
   rw [cond_ky_eq _ _ _ _ _ _ _ _ _ hq]
   rw [show (phi_ky 0 n ts n 0 n ts n ps).1=ckL ts ps n from (phi_ky_spec _ _ _ _ _ _ _ _ _ hq).2];rfl
  ·rw [dF (show ¬ (n:Int)=(m:Int) by omega)]
   unfold ckN
   rw [if_pos h0];rfl
theorem eChk:Entry Try.prog 10 (tChk cg0):=chk_entry (by kernel_rfl) kc_val
end
end Go.Proofs.Ytdnmkehncpfnnaa.L
namespace Go.Proofs.Ytdnmkehncpfnnaa.L
open Go Go.V Go.RowKit Go.Proofs.Ytdnmkehncpfnnaa.Sp Go.Proofs.Ytdnmkehncpfnnaa.F
open Go.Proofs (Try.prog)
noncomputable section
def toBC:Nat→Nat→List UInt8
 | 0,_=> []
 | k+1,n=>if n=0 then [] else toBC k (n / 256) ++ [UInt8.ofNat n]
theorem toBC_eq (k:Nat):∀ n,n < 256 ^ k→toBC k n=toB n:=by
 induction k with
 | zero=>
  intro n h
  have:n=0:=by rw [Nat.pow_zero] at h;omega
  subst this
  unfold toB;rfl
 | succ k ih=>
  intro n h
  unfold toB toBC
  by_cases h0:n=0
  ·rw [if_pos h0,dif_pos h0]
  ·rw [if_neg h0,dif_neg h0,ih (n / 256) (by rw [Nat.pow_succ] at h;exact Nat.div_lt_of_lt_mul (by rw [Nat.mul_comm];exact h))]
def magC (n:Nat):ByteArray:=if n < 281474976710656 then ⟨(toBC 6 n).toArray⟩ else magOf n
theorem magC_eq:magC=magOf:=by
 funext n
 unfold magC
 split
 ·rename_i h
  rw [toBC_eq 6 n h];rfl
 ·rfl
def sgM (mg:Nat→ByteArray):Sg:= { sg0 with ms:=fun z=>mg z.natAbs }
def qdM (mg:Nat→ByteArray) (q:Rat):ByteArray:=if q.den=1 then ByteArray.mk #[] else mg q.den
def sqM (mg:Nat→ByteArray):Qg:= { sq0 with
 qs:=fun q=>mg q.num.natAbs
 qd:=qdM mg
 ck:=fun b n d=>bif (b==qnn (qvn b n d))&&strEq n (mg (qvn b n d).num.natAbs)&&strEq d (qdM mg (qvn b n d)) then 0 else 1 }
theorem sgM_eq:sg0=sgM magC:=by rw [magC_eq];rfl
theorem sqM_eq:sq0=sqM magC:=by rw [magC_eq];rfl
def CAwS (S:Sg) (X:Xg) (Z:Qg):FuncId→TF:=addC 46 (tQRatio X Z) (addC 15 (tQOf Z) (addC 29 (tQAdd Z) (addC 14 (tQSub Z) (addC 8 (tQMul Z) (addC 37 (tQQuo Z) (addC 11 (tQCompare Z) (addC 13 (tQSign Z) (addC 24 (tQCheck Z) (addC 49 (tQCeil S Z) (addC 26 (tQNew S X Z) (addC 50 (tRoot S X) (addC 28 (tOf S) (addC 51 (tAdd S) (addC 42 (tCompare S) noC))))))))))))))
theorem CAwS_ok:Meets Try.prog (CAwS sg0 xg0 sq0):=(((((((((((((((meets_none _).add eCompare).add eAdd).add eOf).add eRoot).add eQNew).add eQCeil).add eQCheck).add eQSign).add eQCompare).add eQQuo).add eQMul).add eQSub).add eQAdd).add eQOf).add eQRatio
def KAw:FuncId→Bool:=fun g=> !(g==66 ||g==67)
def tAwS:TF:=fun args=>match args with | []=>some (true, .val (.bool true)) | _=>none
theorem awk51:callA Try.prog ⟨CAwS (sgM magC) xg0 (sqM magC),KAw,noL⟩ 20 20 6 []=some (.val (.bool true)):=by kernel_rfl
theorem eAwakeS:Entry Try.prog 6 tAwS:=entry_of CAwS_ok loops_none mixed (by kernel_rfl) (fun args r h=>by
 unfold tAwS at h
 split at h
 ·cases h;rw [sgM_eq,sqM_eq];exact awk51
 ·cases h)
end
end Go.Proofs.Ytdnmkehncpfnnaa.L
namespace Go.Proofs.Ytdnmkehncpfnnaa.L
open Go Go.V Go.RowKit Go.Proofs.Ytdnmkehncpfnnaa.Sp
open Go.Proofs (Try.prog)
noncomputable section
def Qg.pair (Z:Qg) (a b:Rat):AV:= .agg [.val (.bool (Z.qn a)), .val (.string (Z.qs a)), .val (.string (Z.qd a)), .val (.bool (Z.qn b)), .val (.string (Z.qs b)), .val (.string (Z.qd b))]
theorem cq_ge {a b:Rat} :0≤sq0.cq a b↔¬ a < b:=by
 show 0≤cqn a b↔_
 unfold cqn
 split
 ·rename_i h
  exact ⟨fun h2=>by omega,fun h2=>absurd h h2⟩
 ·rename_i h
  exact ⟨fun _=>h,fun _=>by split <;> omega⟩
def srN (ts:List Value) (x:Rat):Nat→Nat
 | 0=>0
 | n+1=>if srN ts x n=n then (if qt ts n < x then n+1 else n) else srN ts x n
structure TsOk (n:Nat) (ts:List Value):Prop where
 lim:n≤1000
 ok:∀ j,j < n→okX ts j=true
 up:∀ j,j+1 < n→qt ts j < qt ts (j+1)
theorem TsOk.mono {n:Nat} {ts:List Value} (h:TsOk n ts) {a:Nat} (d:Nat):a+d < n→qt ts a≤qt ts (a+d):=by
 induction d with
 | zero=>intro _;exact Rat.le_refl
 | succ d ih=>
  intro hb
  exact Rat.le_trans (ih (by omega)) (Rat.le_of_lt (h.up (a+d) (by omega)))
theorem TsOk.le {n:Nat} {ts:List Value} (h:TsOk n ts) {a b:Nat} (hab:a≤b) (hb:b < n):qt ts a≤qt ts b:=by
 obtain ⟨d,rfl⟩:=Nat.exists_eq_add_of_le hab
 exact h.mono d hb
section
variable {n : Nat} {ts ps : List Value} {xb : Bool} {xn xd : BA} {z0 : Bool} {z1 z2 : BA} {z3 : Bool} {z4 z5 : BA}
end
end
end Go.Proofs.Ytdnmkehncpfnnaa.L
namespace Go.Proofs.Ytdnmkehncpfnnaa.L
open Go Go.V Go.RowKit Go.Proofs.Ytdnmkehncpfnnaa.Sp
open Go.Proofs (Try.prog)
noncomputable section
structure Vg where
 okl:BA→BA→Bool
 at1:Rat→Rat→Rat→Rat
 plx:Nat→List Value→List Value→Rat→Rat
 ply:Nat→List Value→List Value→Rat→Rat
 pk:Nat→List Value→Nat→List Value→BA→BA→Bool
def at1N (a b t:Rat):Rat:=a+(b - a)*t
def pl1 (n:Nat) (ts:List Value) (c:Nat→Rat) (x:Rat):Rat:=
 if srN ts x n=0 then c 0 else if srN ts x n=n then c (n - 1) else at1N (c (srN ts x n - 1)) (c (srN ts x n)) ((x - qt ts (srN ts x n - 1)) / (qt ts (srN ts x n) - qt ts (srN ts x n - 1)))
structure PlOk (n:Nat) (ts:List Value) (m:Nat) (ps:List Value):Prop where
 eq:n=m
 pos:0 < n
 ts:TsOk n ts
 pts:∀ j,j < n→okQ ps j=true
 can:∀ j,j < n→kvP ps j=0
def pkN (n:Nat) (ts:List Value) (m:Nat) (ps:List Value) (xn xd:BA):Bool:= @decide (PlOk n ts m ps) (Classical.propDecidable _)&&okm xn xd
def vg0:Vg where
 okl n d:=decide (n.size≤100000)&&decide (d.size≤100000)
 at1:=at1N
 plx n ts ps x:=pl1 n ts (px ps) x
 ply n ts ps x:=pl1 n ts (py ps) x
 pk:=pkN
theorem okl_out {n d:BA} (h:vg0.okl n d=true):n.size≤100000∧d.size≤100000:=by
 have h2:(decide (n.size≤100000)&&decide (d.size≤100000))=true:=h
 rwa [Bool.and_eq_true,decide_eq_true_eq,decide_eq_true_eq] at h2
theorem okl_sz {b:Bool} {n d:BA} (h:vg0.okl n d=true):szq (sq0.qv b n d)≤100000:=by
 have:=szq_val b n d
 have:=okl_out h
 omega
theorem okl_q {n d:BA} (h:vg0.okl n d=true):sq0.ok n d=true:=qok_in (by have:=okl_out h;omega) (by have:=okl_out h;omega)
theorem okX_sz {ts:List Value} {j:Nat} (h:okX ts j=true):szq (qt ts j)≤1000:=by
 obtain ⟨_,h2⟩:=okX_out h
 have:=okm_out h2
 have:=szq_val (asB (ts.getD (j*3+0) undef)) (asS (ts.getD (j*3+1) undef)) (asS (ts.getD (j*3+2) undef))
 unfold qt
 omega
theorem okl_rat {q:Rat} (h:szq q≤100000):vg0.okl (sq0.qs q) (sq0.qd q)=true:=by
 unfold szq at h
 have h1:=size_qs q
 have h2:=size_qd q
 show (decide _&&decide _)=true
 rw [decide_eq_true (show (sq0.qs q).size≤100000 by omega),decide_eq_true (show (sq0.qd q).size≤100000 by omega)];rfl
theorem qt_eq (ts:List Value) (j:Nat):sq0.qv (asB (ts.getD (j*3+0) undef)) (asS (ts.getD (j*3+1) undef)) (asS (ts.getD (j*3+2) undef))=qt ts j:=rfl
theorem px_eq (ps:List Value) (j:Nat):sq0.qv (asB (ps.getD (j*6+0) undef)) (asS (ps.getD (j*6+1) undef)) (asS (ps.getD (j*6+2) undef))=px ps j:=rfl
theorem py_eq (ps:List Value) (j:Nat):sq0.qv (asB (ps.getD (j*6+3) undef)) (asS (ps.getD (j*6+4) undef)) (asS (ps.getD (j*6+5) undef))=py ps j:=rfl
end
end Go.Proofs.Ytdnmkehncpfnnaa.L
