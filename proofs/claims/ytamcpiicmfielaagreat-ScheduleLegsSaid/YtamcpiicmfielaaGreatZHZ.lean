import Derived.Test.YtamcpiicmfielaaGreatZHX
import Derived.Test.YtamcpiicmfielaaGreatZUA
import Derived.Test.YtamcpiicmfielaaGreatZQA
import Derived.Test.YtamcpiicmfielaaGreatZMD
set_option linter.unusedVariables false
set_option linter.unusedSimpArgs false
namespace Go.Proofs.YtamcpiicmfielaaGreat.L
open Go Go.V Go.RowKit Go.Proofs.YtamcpiicmfielaaGreat.Sp
open Go.Proofs (Tryz.prog)
noncomputable section
def fe (ts:List Value) (j:Nat):Bool:=aL (ts.getD (j*3+0) undef) (ts.getD (j*3+1) undef) (ts.getD (j*3+2) undef)
def dA (n:Nat) (ts:List Value):Bool:=decide (n≤9223372036854775807)&&(List.range n).all (fe ts)
theorem LY {n:Nat} {ts:List Value} (h:dA n ts=true):n≤9223372036854775807∧∀ j,j < n→fe ts j=true:=by
 unfold dA at h
 rw [Bool.and_eq_true,decide_eq_true_eq] at h
 exact ⟨h.1,fun j G=>wH h.2 G⟩
end
end Go.Proofs.YtamcpiicmfielaaGreat.L
namespace Go.Proofs.YtamcpiicmfielaaGreat.L
open Go Go.V Go.RowKit Go.Proofs.YtamcpiicmfielaaGreat.Sp
open Go.Proofs (Tryz.prog)
noncomputable section
def G5 (K:Hg) (G:Qg):Env:= ⟨au 49 (gR (oe G)) (au 57 (gP (sa K)) (au 23 (cG (nj G)) aM)),az,aq⟩
def Ha (K:Hg) (G:Qg):Env:= ⟨au 51 (gR (nk G fun b n d=> .val (.int .i64 (G.ck b n d)))) (au 58 (gP (sa K)) (au 48 (cG (FB G)) aM)),az,aq⟩
def cH (n d:BA):Bool:=decide (n.size≤1000)&&decide (d.size≤1000)
theorem rp {n d:BA} (h:cH n d=true):n.size≤1000∧d.size≤1000:=by
 unfold cH at h
 rwa [Bool.and_eq_true,decide_eq_true_eq,decide_eq_true_eq] at h
theorem cy {n d:BA} (h:cH n d=true):ad.ok n d=true:=DS (by have:=rp h;omega) (by have:=rp h;omega)
theorem yv {n d:BA} (h:cH n d=true):ad.br n d=true:=Na (by have:=rp h;omega) (by have:=rp h;omega)
def dc (ts:List Value) (j:Nat):Bool:=fe ts j&&cH (ag (ts.getD (j*3+1) undef)) (ag (ts.getD (j*3+2) undef))
theorem cg {ts:List Value} {j:Nat} (h:dc ts j=true):aL (ts.getD (j*3+0) undef) (ts.getD (j*3+1) undef) (ts.getD (j*3+2) undef)=true∧cH (ag (ts.getD (j*3+1) undef)) (ag (ts.getD (j*3+2) undef))=true:=by
 unfold dc at h
 rwa [Bool.and_eq_true] at h
def jj (ts:List Value) (j:Nat):Bool:= !decide (ad.ck (ar (ts.getD (j*3+0) undef)) (ag (ts.getD (j*3+1) undef)) (ag (ts.getD (j*3+2) undef))=0)
def qt (ts:List Value) (j:Nat):Rat:=ad.qv (ar (ts.getD (j*3+0) undef)) (ag (ts.getD (j*3+1) undef)) (ag (ts.getD (j*3+2) undef))
def bE (ts ps:List Value) (j:Nat):Int:=if jj ts j=true∨oE ps j=true then 1 else if 0 < j∧0≤ad.cq (qt ts (j - 1)) (qt ts j) then 8 else 0
def dK (ts ps:List Value):Nat→Int
 | 0=>0
 | n+1=>if dK ts ps n=0 then bE ts ps n else dK ts ps n
def bb (n:Nat) (ts:List Value) (m:Nat) (ps:List Value):Int:=if ¬ n=m then 9 else if n=0 then 11 else if 1000 < n then 4 else dK ts ps n
theorem w5 {ts ps:List Value} {n:Nat} (h:∀ j,j < n→bE ts ps j=0):dK ts ps n=0:=by
 induction n with
 | zero=>rfl
 | succ n G=>
  unfold dK
  rw [if_pos (G fun j I=>h j (by omega))]
  exact h n (by omega)
theorem Jr {ts ps:List Value} {k:Nat} (h:∀ j,j < k→bE ts ps j=0) (G:¬ bE ts ps k=0) (d:Nat):dK ts ps (k+1+d)=bE ts ps k:=by
 induction d with
 | zero=>
  show dK ts ps (k+1)=_
  unfold dK
  rw [if_pos (w5 h)]
 | succ d I=>
  show dK ts ps (k+1+d+1)=_
  unfold dK
  rw [I,if_neg G]
theorem BR {ts ps:List Value} {n:Nat} (h:dK ts ps n=0):∀ j,j < n→bE ts ps j=0:=by
 induction n with
 | zero=>intro j I;omega
 | succ n M=>
  unfold dK at h
  by_cases G:dK ts ps n=0
  ·rw [if_pos G] at h
   intro j I
   by_cases J:j=n
   ·subst J;exact h
   ·exact M G j (by omega)
  ·rw [if_neg G] at h
   exact absurd h G
theorem Dc {ts:List Value} {j:Nat} (h:fe ts j=true): [af 3 ts j 0,af 3 ts j 1,af 3 ts j 2].all aS=true:=by
 obtain ⟨G,I,J⟩:=fO h
 unfold af
 rw [G,I,J];rfl
theorem qA {ts ps:List Value} {j:Nat} (h:bE ts ps j=0):ad.ck (ar (ts.getD (j*3+0) undef)) (ag (ts.getD (j*3+1) undef)) (ag (ts.getD (j*3+2) undef))=0∧jK ps j=0∧(0 < j→¬ 0≤ad.cq (qt ts (j - 1)) (qt ts j)):=by
 unfold bE at h
 split at h
 ·cases h
 ·rename_i I
  split at h
  ·cases h
  ·rename_i J
   refine ⟨Classical.not_not.1 fun G=>I (.inl ?_),Classical.not_not.1 fun G=>I (.inr ?_),fun G M=>J ⟨G,M⟩⟩
   ·unfold jj;rw [decide_eq_false G];rfl
   ·unfold oE;rw [decide_eq_false G];rfl
theorem Jq {ts ps:List Value} {j:Nat} (h:¬ bE ts ps j=0):(¬ ad.ck (ar (ts.getD (j*3+0) undef)) (ag (ts.getD (j*3+1) undef)) (ag (ts.getD (j*3+2) undef))=0∧bE ts ps j=1)∨
  (ad.ck (ar (ts.getD (j*3+0) undef)) (ag (ts.getD (j*3+1) undef)) (ag (ts.getD (j*3+2) undef))=0∧¬ jK ps j=0∧bE ts ps j=1)∨
  (ad.ck (ar (ts.getD (j*3+0) undef)) (ag (ts.getD (j*3+1) undef)) (ag (ts.getD (j*3+2) undef))=0∧jK ps j=0∧0 < j∧0≤ad.cq (qt ts (j - 1)) (qt ts j)∧bE ts ps j=8):=by
 by_cases G:ad.ck (ar (ts.getD (j*3+0) undef)) (ag (ts.getD (j*3+1) undef)) (ag (ts.getD (j*3+2) undef))=0
 ·by_cases I:jK ps j=0
  ·have M:¬ (jj ts j=true∨oE ps j=true):=by
    unfold jj oE
    rw [decide_eq_true G,decide_eq_true I]
    exact fun h=>h.elim (fun h=>by cases h) (fun h=>by cases h)
   by_cases J:0 < j∧0≤ad.cq (qt ts (j - 1)) (qt ts j)
   ·exact .inr (.inr ⟨G,I,J.1,J.2,by unfold bE;rw [if_neg M,if_pos J]⟩)
   ·exact absurd (by unfold bE;rw [if_neg M,if_neg J]) h
  ·exact .inr (.inl ⟨G,I,by unfold bE;rw [if_pos (.inr (by unfold oE;rw [decide_eq_false I];rfl))]⟩)
 ·exact .inl ⟨G,by unfold bE;rw [if_pos (.inl (by unfold jj;rw [decide_eq_false G];rfl))]⟩
abbrev eG:List Bool:= [false,true,false,true,true]
def eS (er:Int) (G:Nat) (I:List Value) (n2 i:Int) (n:Nat) (ts:List Value) (m:Nat) (ps:List Value):List AV:=ao 57 [(1, .ptr 0 0),(2, .val (.int .i64 er)),(24, .lst false 27 G (af 3 I)),(25, .val (.int .i64 n2)),(26, .val (.int .i64 i))]
def ei (er:Int) (G:Nat) (I:List Value) (n2 i:Int) (n:Nat) (ts:List Value) (m:Nat) (ps:List Value):Hp:= [.row (.cells [.lst false 27 n (af 3 ts), .lst false 35 m (af 6 ps)]) 25 .live]
theorem Rv:aI Tryz.prog 18 eG=some (.loop (lb 18 eG)):=by kernel_rfl
theorem Td:aI Tryz.prog 18 (false :: eG)=some (lb 18 eG):=by kernel_rfl
theorem Eg (K:Hg) (I:Qg) (er:Int) (J:Nat) (G:List Value) (n2 i:Int) (n:Nat) (ts:List Value) (m:Nat) (ps:List Value):letI bx:Option (Ex×List AV×Hp):=(bif ah IntKind.i64 (i+1) then some (.normal,ao 57 [(1,(.ptr 0 0)),(2,(.val (.int .i64 er))),(24,(.lst false 27 J (af 3 G))),(25,(.val (.int .i64 n2))),(26,(.val (.int .i64 (i+1))))], [(.row (.cells [(.lst false 27 n (af 3 ts)),(.lst false 35 m (af 6 ps))]) 25 .live)]) else none);letI M:=(G.getD (i.toNat*3+1) undef);letI O:=(G.getD (i.toNat*3+2) undef);letI U:=(G.getD (i.toNat*3+0) undef);letI ab:=(ts.getD ((i - 1).toNat*3+1) undef);letI aE:=(ts.getD ((i - 1).toNat*3+2) undef);letI a1:=(ps.getD (i.toNat*6+1) undef);letI a6:=(ps.getD (i.toNat*6+2) undef);letI a7:=(ps.getD (i.toNat*6+4) undef);letI Z:=(ps.getD (i.toNat*6+5) undef);
  (aP Tryz.prog (G5 K I) 18 [1,2,24,25,26] (lb 18 eG) (false :: eG) (eS er J G n2 i n ts m ps) (ei er J G n2 i n ts m ps)=(bif decide (i < n2) then (bif decide (0≤i)&&decide (i < (↑J:Int)) then (bif [(fun q=>af 3 G i.toNat (0+q)) (nat_lit 0),(fun q=>af 3 G i.toNat (0+q)) (nat_lit 1),(fun q=>af 3 G i.toNat (0+q)) (nat_lit 2)].all aS then (bif aL U M O&&I.ok (ag M) (ag O) then (bif !decide (I.ck (ar U) (ag M) (ag O)=0) then some (.ret,ao 57 [(1,(.ptr 0 0)),(2,(.val (.int .i64 1))),(24,(.lst false 27 J (af 3 G))),(25,(.val (.int .i64 n2))),(26,(.val (.int .i64 i)))], [(.row (.cells [(.lst false 27 n (af 3 ts)),(.lst false 35 m (af 6 ps))]) 25 .live)]) else (bif decide (0≤i)&&decide (i < (↑m:Int)) then (bif aL (ps.getD (i.toNat*6+0) undef) a1 a6&&aL (ps.getD (i.toNat*6+3) undef) a7 Z&&(K.ok (ag a1) (ag a6)&&K.ok (ag a7) (ag Z)) then (bif !decide (K.kv (ar (ps.getD (i.toNat*6+0) undef)) (ag a1) (ag a6) (ar (ps.getD (i.toNat*6+3) undef)) (ag a7) (ag Z)=0) then some (.ret,ao 57 [(1,(.ptr 0 0)),(2,(.val (.int .i64 1))),(24,(.lst false 27 J (af 3 G))),(25,(.val (.int .i64 n2))),(26,(.val (.int .i64 i)))], [(.row (.cells [(.lst false 27 n (af 3 ts)),(.lst false 35 m (af 6 ps))]) 25 .live)]) else (bif decide (0 < i) then (bif ah IntKind.i64 (i - 1) then (bif decide (0≤i - 1)&&decide (i - 1 < (↑n:Int)) then (bif aL (ts.getD ((i - 1).toNat*3+0) undef) ab aE&&aL U M O&&(I.ok (ag ab) (ag aE)&&I.ok (ag M) (ag O)) then (bif decide (0≤I.cq (I.qv (ar (ts.getD ((i - 1).toNat*3+0) undef)) (ag ab) (ag aE)) (I.qv (ar U) (ag M) (ag O))) then some (.ret,ao 57 [(1,(.ptr 0 0)),(2,(.val (.int .i64 8))),(24,(.lst false 27 J (af 3 G))),(25,(.val (.int .i64 n2))),(26,(.val (.int .i64 i)))], [(.row (.cells [(.lst false 27 n (af 3 ts)),(.lst false 35 m (af 6 ps))]) 25 .live)]) else bx) else none) else none) else none) else bx)) else none) else none)) else none) else none) else none) else some ((.exit 1),ao 57 [(1,(.ptr 0 0)),(2,(.val (.int .i64 er))),(24,(.lst false 27 J (af 3 G))),(25,(.val (.int .i64 n2))),(26,(.val (.int .i64 i)))], [(.row (.cells [(.lst false 27 n (af 3 ts)),(.lst false 35 m (af 6 ps))]) 25 .live)]))):=by kernel_rfl
theorem rY {er:Int} {G:Nat} {I:List Value} {n2 i:Int} {n:Nat} {ts:List Value} {m:Nat} {ps:List Value} {e:Ex} {T:List AV} {H:Hp} (h:aP Tryz.prog (G5 bd ad) 18 [1,2,24,25,26] (lb 18 eG) (false :: eG) (eS er G I n2 i n ts m ps) (ei er G I n2 i n ts m ps)=some (e,T,H)):V.Ends Tryz.prog false 0 0 (lb 18 eG) (eS er G I n2 i n ts m ps) (ei er G I n2 i n ts m ps) e T H:=
 bK ((((aK _).add lp.cG).add V7.gP).add qI.gR) aO mixed Td h
section
variable {n : Nat} {ts ps : List Value} {er : Int}
theorem K2 (i:Nat) (hi:i < n) (bD:n≤1000) (J:∀ j,j < n→dc ts j=true) (bx:∀ j,j < n→c8 ps j=true) (h:bE ts ps i=0):V.Ends Tryz.prog false 0 0 (lb 18 eG) (eS er n ts (n:Int) i n ts n ps) (ei er n ts (n:Int) i n ts n ps) .normal (eS er n ts (n:Int) ((i+1:Nat):Int) n ts n ps) (ei er n ts (n:Int) ((i+1:Nat):Int) n ts n ps):=by
 obtain ⟨g1,g2,aE⟩:=qA h
 obtain ⟨I,M⟩:=cg (J i hi)
 obtain ⟨⟨O,U⟩,Z,ab⟩:=mB (bx i hi)
 have G:=Eg bd ad er n ts (n:Int) i n ts n ps
 simp only [Int.toNat_natCast,Nat.zero_add] at G
 rw [dT (show (i:Int) < (n:Int) by omega),dT (show (0:Int)≤(i:Int) by omega),Dc (show fe ts i=true from I),I,cy M] at G
 rw [dT g1,O,U,Z,ab,dT (show bd.kv (ar (ps.getD (i*6+0) undef)) (ag (ps.getD (i*6+1) undef)) (ag (ps.getD (i*6+2) undef)) (ar (ps.getD (i*6+3) undef)) (ag (ps.getD (i*6+4) undef)) (ag (ps.getD (i*6+5) undef))=0 from g2)] at G
 by_cases a7:i=0
 ·subst a7
  exact rY G
 ·have a1:=aE (by omega)
  obtain ⟨j,rfl⟩:∃ j,i=j+1:= ⟨i - 1,by omega⟩
  obtain ⟨c1,c2⟩:=cg (J j (by omega))
  have e1:((j+1:Nat):Int) - 1=(j:Int):=by omega
  simp only [e1,Int.toNat_natCast] at G
  rw [dT (show (0:Int) < ((j+1:Nat):Int) by omega),aJ (z:=(j:Int)) (by omega),dT (show (0:Int)≤(j:Int) by omega),dT (show (j:Int) < (n:Int) by omega),c1,cy c2,aJ (z:=((j+1:Nat):Int)+1) (by omega)] at G
  have a6:¬ 0≤ad.cq (ad.qv (ar (ts.getD (j*3+0) undef)) (ag (ts.getD (j*3+1) undef)) (ag (ts.getD (j*3+2) undef))) (ad.qv (ar (ts.getD ((j+1)*3+0) undef)) (ag (ts.getD ((j+1)*3+1) undef)) (ag (ts.getD ((j+1)*3+2) undef))):=a1
  rw [dF a6] at G
  exact rY G
theorem Xe (i:Nat) (hi:i < n) (bD:n≤1000) (ab:∀ j,j < n→dc ts j=true) (a7:∀ j,j < n→c8 ps j=true) (h:¬ bE ts ps i=0):V.Ends Tryz.prog false 0 0 (lb 18 eG) (eS er n ts (n:Int) i n ts n ps) (ei er n ts (n:Int) i n ts n ps) .ret (eS (bE ts ps i) n ts (n:Int) i n ts n ps) (ei (bE ts ps i) n ts (n:Int) i n ts n ps):=by
 obtain ⟨J,aE⟩:=cg (ab i hi)
 obtain ⟨⟨M,O⟩,U,Z⟩:=mB (a7 i hi)
 have G:=Eg bd ad er n ts (n:Int) i n ts n ps
 simp only [Int.toNat_natCast,Nat.zero_add] at G
 rw [dT (show (i:Int) < (n:Int) by omega),dT (show (0:Int)≤(i:Int) by omega),Dc (show fe ts i=true from J),J,cy aE] at G
 rcases Jq h with ⟨g1,I⟩ | ⟨g1,g2,I⟩ | ⟨g1,g2,bx,a1,I⟩ <;> rw [I]
 ·rw [dF g1] at G
  exact rY G
 ·rw [dT g1,M,O,U,Z,dF (show ¬ bd.kv (ar (ps.getD (i*6+0) undef)) (ag (ps.getD (i*6+1) undef)) (ag (ps.getD (i*6+2) undef)) (ar (ps.getD (i*6+3) undef)) (ag (ps.getD (i*6+4) undef)) (ag (ps.getD (i*6+5) undef))=0 from g2)] at G
  exact rY G
 ·rw [dT g1,M,O,U,Z,dT (show bd.kv (ar (ps.getD (i*6+0) undef)) (ag (ps.getD (i*6+1) undef)) (ag (ps.getD (i*6+2) undef)) (ar (ps.getD (i*6+3) undef)) (ag (ps.getD (i*6+4) undef)) (ag (ps.getD (i*6+5) undef))=0 from g2)] at G
  obtain ⟨j,rfl⟩:∃ j,i=j+1:= ⟨i - 1,by omega⟩
  obtain ⟨c1,c2⟩:=cg (ab j (by omega))
  have e1:((j+1:Nat):Int) - 1=(j:Int):=by omega
  simp only [e1,Int.toNat_natCast] at G
  rw [dT (show (0:Int) < ((j+1:Nat):Int) by omega),aJ (z:=(j:Int)) (by omega),dT (show (0:Int)≤(j:Int) by omega),dT (show (j:Int) < (n:Int) by omega),c1,cy c2] at G
  have a6:0≤ad.cq (ad.qv (ar (ts.getD (j*3+0) undef)) (ag (ts.getD (j*3+1) undef)) (ag (ts.getD (j*3+2) undef))) (ad.qv (ar (ts.getD ((j+1)*3+0) undef)) (ag (ts.getD ((j+1)*3+1) undef)) (ag (ts.getD ((j+1)*3+2) undef))):=a1
  rw [dT a6] at G
  exact rY G
theorem Xd (G:n≤1000) (J:∀ j,j < n→dc ts j=true) (I:∀ j,j < n→c8 ps j=true) (h:∀ j,j < n→bE ts ps j=0) (k:Nat):∀ i:Nat,n=i+k→aA Tryz.prog (lb 18 eG) (eS er n ts (n:Int) i n ts n ps) (ei er n ts (n:Int) i n ts n ps) (.exit 1) (eS er n ts (n:Int) n n ts n ps) (ei er n ts (n:Int) n n ts n ps):=by
 induction k with
 | zero=>
  intro i hi
  have:i=n:=by omega
  subst this
  refine .last (rY ?_) (by intro h;cases h)
  rw [Eg,dF (show ¬ ((i:Nat):Int) < (i:Int) by omega)]
  rfl
 | succ k M=>
  intro i hi
  exact .more (K2 i (by omega) G J I (h i (by omega))) (M (i+1) (by omega))
theorem Xj (G:n≤1000) (J:∀ j,j < n→dc ts j=true) (I:∀ j,j < n→c8 ps j=true) (q:Nat) (O:q < n) (h:∀ j,j < q→bE ts ps j=0) (M:¬ bE ts ps q=0) (k:Nat):∀ i:Nat,q=i+k→aA Tryz.prog (lb 18 eG) (eS er n ts (n:Int) i n ts n ps) (ei er n ts (n:Int) i n ts n ps) .ret (eS (bE ts ps q) n ts (n:Int) q n ts n ps) (ei (bE ts ps q) n ts (n:Int) q n ts n ps):=by
 induction k with
 | zero=>
  intro i hi
  have:i=q:=by omega
  subst this
  exact .last (Xe i O G J I M) (by intro h;cases h)
 | succ k U=>
  intro i hi
  exact .more (K2 i (by omega) G J I (h i (by omega))) (U (i+1) (by omega))
end
def uG (er:Int) (G:Nat) (I:List Value) (n2 i:Int) (n:Nat) (ts:List Value) (m:Nat) (ps:List Value):Prop:=n=G∧ts=I∧n2=(n:Int)∧n=m∧i=0∧n≤1000∧(∀ j,j < n→dc ts j=true)∧(∀ j,j < n→c8 ps j=true)∧∀ j,j < n→bE ts ps j=0
def Du (er:Int) (G:Nat) (I:List Value) (n2 i:Int) (n:Nat) (ts:List Value) (m:Nat) (ps:List Value) (ρ:Int):Prop:=True
theorem Yl (er:Int) (G:Nat) (I:List Value) (n2 i:Int) (n:Nat) (ts:List Value) (m:Nat) (ps:List Value) (h:uG er G I n2 i n ts m ps):∃ ρ:Int,aA Tryz.prog (lb 18 eG) (eS er G I n2 i n ts m ps) (ei er G I n2 i n ts m ps) (.exit 1) (eS er G I n2 ρ n ts m ps) (ei er G I n2 ρ n ts m ps)∧Du er G I n2 i n ts m ps ρ:=by
 obtain ⟨rfl,rfl,rfl,rfl,rfl,J,O,M,h⟩:=h
 exact ⟨_,Xd J O M h _ 0 (Nat.zero_add _).symm,trivial⟩
def F1 (U:Int→Nat→List Value→Int→Int→Nat→List Value→Nat→List Value→Bool) (O:Int→Nat→List Value→Int→Int→Nat→List Value→Nat→List Value→Int) (T:List AV) (H:Hp):Option (Bool×Ex×List AV×Hp):=
 match al T 1,al T 2,al T 24,al T 25,al T 26,H with
 | .ptr 0 0, .val (.int .i64 er), .lst false 27 G M, .val (.int .i64 n2), .val (.int .i64 i), [.row (.cells [.lst false 27 n J, .lst false 35 m I]) 25 .live]=>bif T.length==57 then some (aw 3 G M&&aw 3 n J&&aw 6 m I&&U er G (ai 3 G M) n2 i n (ai 3 n J) m (ai 6 m I), .exit 1,eS er G (ai 3 G M) n2 ((O er G (ai 3 G M) n2 i n (ai 3 n J) m (ai 6 m I))) n (ai 3 n J) m (ai 6 m I),ei er G (ai 3 G M) n2 ((O er G (ai 3 G M) n2 i n (ai 3 n J) m (ai 6 m I))) n (ai 3 n J) m (ai 6 m I)) else none
 | _,_,_,_,_,_=>none
abbrev Ib:Type:=Int→Nat→List Value→Int→Int→Nat→List Value→Nat→List Value→Bool
abbrev HE:Type:=Int→Nat→List Value→Int→Int→Nat→List Value→Nat→List Value→Int
def Bj (G:Ib) (I:HE) (L:aD):aD:=bu 0 18 eG [1,2,24,25,26] (F1 G I) L
def rF (er:Int) (G:Nat) (I:List Value) (n2 i:Int) (n:Nat) (ts:List Value) (m:Nat) (ps:List Value):Int:=Classical.epsilon fun ρ=>aA Tryz.prog (lb 18 eG) (eS er G I n2 i n ts m ps) (ei er G I n2 i n ts m ps) (.exit 1) (eS er G I n2 (ρ) n ts m ps) (ei er G I n2 (ρ) n ts m ps)∧Du er G I n2 i n ts m ps ρ
theorem ZT (er:Int) (G:Nat) (I:List Value) (n2 i:Int) (n:Nat) (ts:List Value) (m:Nat) (ps:List Value) (h:uG er G I n2 i n ts m ps):aA Tryz.prog (lb 18 eG) (eS er G I n2 i n ts m ps) (ei er G I n2 i n ts m ps) (.exit 1) (eS er G I n2 ((rF er G I n2 i n ts m ps)) n ts m ps) (ei er G I n2 ((rF er G I n2 i n ts m ps)) n ts m ps)∧Du er G I n2 i n ts m ps (rF er G I n2 i n ts m ps):=Classical.epsilon_spec (Yl er G I n2 i n ts m ps h)
def xo (er:Int) (G:Nat) (I:List Value) (n2 i:Int) (n:Nat) (ts:List Value) (m:Nat) (ps:List Value):Bool:= @decide (uG er G I n2 i n ts m ps) (Classical.propDecidable _)
theorem Ub (er:Int) (G:Nat) (I:List Value) (n2 i:Int) (n:Nat) (ts:List Value) (m:Nat) (ps:List Value) (h:uG er G I n2 i n ts m ps):xo er G I n2 i n ts m ps=true:= @decide_eq_true _ (Classical.propDecidable _) h
theorem adl (T:List AV) (H:Hp) (e:Ex) (J:List AV) (I:Hp) (h:F1 xo rF T H=some (true,e,J,I)):V.Ends Tryz.prog false 0 0 (.loop (lb 18 eG)) T H e J I:=by
 unfold F1 at h
 split at h
 ·rename_i er U aE n2 i n ab m Z a1 a6 a7 bx bD
  rw [Bool.cond_eq_ite] at h
  split at h
  ·rename_i M
   rw [beq_iff_eq] at M
   simp only [Option.some.injEq,Prod.mk.injEq,Bool.and_eq_true,decide_eq_true_eq] at h
   obtain ⟨⟨⟨⟨k1,b2⟩,b3⟩,b4⟩,rfl,rfl,rfl⟩:=h
   have b5:= @of_decide_eq_true _ (Classical.propDecidable _) b4
   refine Ends.pre (Ends.iM (ZT er U (ai 3 U aE) n2 i n (ai 3 n ab) m (ai 6 m Z) b5).1.ends (bL.cons ⟨⟨rfl,fun _ _ _ _ _ b0=>mV (by kernel_rfl) (by kernel_rfl) b2 b3 b0⟩,rfl,rfl⟩ bL.nil)) (fun α B w D b6 b1=>bw M (fun p O y G=> ?_) b1)
   simp only [List.mem_cons,List.not_mem_nil,or_false] at O
   rcases O with rfl | rfl | rfl | rfl | rfl
   ·rw [a1] at G;exact G
   ·rw [a6] at G;exact G
   ·rw [a7] at G;exact kV (by kernel_rfl) k1 G
   ·rw [bx] at G;exact G
   ·rw [bD] at G;exact G
  ·cases h
 ·cases h
theorem Qk {L:aD} (h:aC Tryz.prog L):aC Tryz.prog (Bj xo rF L):=h.bC Rv adl
abbrev pz:List Bool:= [false,true,false,true,true]
def pO (er:Int) (G:Nat) (I:List Value) (n2 i:Int) (n:Nat) (ts:List Value) (m:Nat) (ps:List Value):List AV:=ao 57 [(1, .ptr 0 0),(2, .val (.int .i64 er)),(24, .lst false 27 G (af 3 I)),(25, .val (.int .i64 n2)),(26, .val (.int .i64 i))]
def oU (er:Int) (G:Nat) (I:List Value) (n2 i:Int) (n:Nat) (ts:List Value) (m:Nat) (ps:List Value):Hp:= [.row (.cells [.lst false 27 n (af 3 ts), .lst false 35 m (af 6 ps)]) 25 .live]
theorem Rw:aI Tryz.prog 18 pz=some (.loop (lb 18 pz)):=by kernel_rfl
def uH (er:Int) (G:Nat) (I:List Value) (n2 i:Int) (n:Nat) (ts:List Value) (m:Nat) (ps:List Value):Prop:=n=G∧ts=I∧n2=(n:Int)∧n=m∧i=0∧n≤1000∧(∀ j,j < n→dc ts j=true)∧(∀ j,j < n→c8 ps j=true)∧∃ q,q < n∧(∀ j,j < q→bE ts ps j=0)∧¬ bE ts ps q=0
def Dv (er:Int) (G:Nat) (I:List Value) (n2 i:Int) (n:Nat) (ts:List Value) (m:Nat) (ps:List Value) (ρ:Int×Int):Prop:=ρ.1=dK ts ps n
theorem Ym (er:Int) (G:Nat) (I:List Value) (n2 i:Int) (n:Nat) (ts:List Value) (m:Nat) (ps:List Value) (h:uH er G I n2 i n ts m ps):∃ ρ:Int×Int,aA Tryz.prog (lb 18 pz) (pO er G I n2 i n ts m ps) (oU er G I n2 i n ts m ps) .ret (pO ρ.1 G I n2 ρ.2 n ts m ps) (oU ρ.1 G I n2 ρ.2 n ts m ps)∧Dv er G I n2 i n ts m ps ρ:=by
 obtain ⟨rfl,rfl,rfl,rfl,rfl,M,Z,O,q,U,h,J⟩:=h
 have e:=Jr h J (n - (q+1))
 rw [show q+1+(n - (q+1))=n by omega] at e
 exact ⟨(bE ts ps q,(q:Int)),Xj M Z O q U h J q 0 (by omega),e.symm⟩
def F2 (U:Int→Nat→List Value→Int→Int→Nat→List Value→Nat→List Value→Bool) (O:Int→Nat→List Value→Int→Int→Nat→List Value→Nat→List Value→Int×Int) (T:List AV) (H:Hp):Option (Bool×Ex×List AV×Hp):=
 match al T 1,al T 2,al T 24,al T 25,al T 26,H with
 | .ptr 0 0, .val (.int .i64 er), .lst false 27 G M, .val (.int .i64 n2), .val (.int .i64 i), [.row (.cells [.lst false 27 n J, .lst false 35 m I]) 25 .live]=>bif T.length==57 then some (aw 3 G M&&aw 3 n J&&aw 6 m I&&U er G (ai 3 G M) n2 i n (ai 3 n J) m (ai 6 m I), .ret,pO ((O er G (ai 3 G M) n2 i n (ai 3 n J) m (ai 6 m I)).1) G (ai 3 G M) n2 ((O er G (ai 3 G M) n2 i n (ai 3 n J) m (ai 6 m I)).2) n (ai 3 n J) m (ai 6 m I),oU ((O er G (ai 3 G M) n2 i n (ai 3 n J) m (ai 6 m I)).1) G (ai 3 G M) n2 ((O er G (ai 3 G M) n2 i n (ai 3 n J) m (ai 6 m I)).2) n (ai 3 n J) m (ai 6 m I)) else none
 | _,_,_,_,_,_=>none
abbrev Ic:Type:=Int→Nat→List Value→Int→Int→Nat→List Value→Nat→List Value→Bool
abbrev HF:Type:=Int→Nat→List Value→Int→Int→Nat→List Value→Nat→List Value→Int×Int
def Bk (G:Ic) (I:HF) (L:aD):aD:=bu 0 18 pz [1,2,24,25,26] (F2 G I) L
def mM (er:Int) (G:Nat) (I:List Value) (n2 i:Int) (n:Nat) (ts:List Value) (m:Nat) (ps:List Value):Int×Int:=Classical.epsilon fun ρ=>aA Tryz.prog (lb 18 pz) (pO er G I n2 i n ts m ps) (oU er G I n2 i n ts m ps) (.ret) (pO (ρ.1) G I n2 (ρ.2) n ts m ps) (oU (ρ.1) G I n2 (ρ.2) n ts m ps)∧Dv er G I n2 i n ts m ps ρ
theorem MA (er:Int) (G:Nat) (I:List Value) (n2 i:Int) (n:Nat) (ts:List Value) (m:Nat) (ps:List Value) (h:uH er G I n2 i n ts m ps):aA Tryz.prog (lb 18 pz) (pO er G I n2 i n ts m ps) (oU er G I n2 i n ts m ps) (.ret) (pO ((mM er G I n2 i n ts m ps).1) G I n2 ((mM er G I n2 i n ts m ps).2) n ts m ps) (oU ((mM er G I n2 i n ts m ps).1) G I n2 ((mM er G I n2 i n ts m ps).2) n ts m ps)∧Dv er G I n2 i n ts m ps (mM er G I n2 i n ts m ps):=Classical.epsilon_spec (Ym er G I n2 i n ts m ps h)
def xp (er:Int) (G:Nat) (I:List Value) (n2 i:Int) (n:Nat) (ts:List Value) (m:Nat) (ps:List Value):Bool:= @decide (uH er G I n2 i n ts m ps) (Classical.propDecidable _)
theorem Uc (er:Int) (G:Nat) (I:List Value) (n2 i:Int) (n:Nat) (ts:List Value) (m:Nat) (ps:List Value) (h:uH er G I n2 i n ts m ps):xp er G I n2 i n ts m ps=true:= @decide_eq_true _ (Classical.propDecidable _) h
theorem adm (T:List AV) (H:Hp) (e:Ex) (J:List AV) (I:Hp) (h:F2 xp mM T H=some (true,e,J,I)):V.Ends Tryz.prog false 0 0 (.loop (lb 18 pz)) T H e J I:=by
 unfold F2 at h
 split at h
 ·rename_i er U aE n2 i n ab m Z a1 a6 a7 bx bD
  rw [Bool.cond_eq_ite] at h
  split at h
  ·rename_i M
   rw [beq_iff_eq] at M
   simp only [Option.some.injEq,Prod.mk.injEq,Bool.and_eq_true,decide_eq_true_eq] at h
   obtain ⟨⟨⟨⟨k1,b2⟩,b3⟩,b4⟩,rfl,rfl,rfl⟩:=h
   have b5:= @of_decide_eq_true _ (Classical.propDecidable _) b4
   refine Ends.pre (Ends.iM (MA er U (ai 3 U aE) n2 i n (ai 3 n ab) m (ai 6 m Z) b5).1.ends (bL.cons ⟨⟨rfl,fun _ _ _ _ _ b0=>mV (by kernel_rfl) (by kernel_rfl) b2 b3 b0⟩,rfl,rfl⟩ bL.nil)) (fun α B w D b6 b1=>bw M (fun p O y G=> ?_) b1)
   simp only [List.mem_cons,List.not_mem_nil,or_false] at O
   rcases O with rfl | rfl | rfl | rfl | rfl
   ·rw [a1] at G;exact G
   ·rw [a6] at G;exact G
   ·rw [a7] at G;exact kV (by kernel_rfl) k1 G
   ·rw [bx] at G;exact G
   ·rw [bD] at G;exact G
  ·cases h
 ·cases h
theorem Ql {L:aD} (h:aC Tryz.prog L):aC Tryz.prog (Bk xp mM L):=h.bC Rw adm
abbrev eF:List Bool:= [false,true,false,true,true,true,true]
def eR (er i:Int) (n:Nat) (ts:List Value) (m:Nat) (ps:List Value):List AV:=ao 59 [(1, .ptr 0 0),(2, .val (.int .i64 er)),(3, .val (.int .i64 i))]
def ef (er i:Int) (n:Nat) (ts:List Value) (m:Nat) (ps:List Value):Hp:= [.row (.cells [.lst false 27 n (af 3 ts), .lst false 35 m (af 6 ps)]) 25 .live]
theorem Rt:aI Tryz.prog 19 eF=some (.loop (lb 19 eF)):=by kernel_rfl
theorem Tc:aI Tryz.prog 19 (false :: eF)=some (lb 19 eF):=by kernel_rfl
theorem Ef (K:Hg) (G:Qg) (er i:Int) (n:Nat) (ts:List Value) (m:Nat) (ps:List Value):letI a6:Option (Ex×List AV×Hp):=(bif ah IntKind.i64 (i+1) then some (.normal,ao 59 [(1,(.ptr 0 0)),(2,(.val (.int .i64 er))),(3,(.val (.int .i64 (i+1))))], [(.row (.cells [(.lst false 27 n (af 3 ts)),(.lst false 35 m (af 6 ps))]) 25 .live)]) else none);letI I:=(ts.getD (i.toNat*3+1) undef);letI J:=(ts.getD (i.toNat*3+2) undef);letI M:=(ts.getD (i.toNat*3+0) undef);letI U:=(ts.getD ((i - 1).toNat*3+1) undef);letI Z:=(ts.getD ((i - 1).toNat*3+2) undef);letI ab:=(ps.getD (i.toNat*6+1) undef);letI aE:=(ps.getD (i.toNat*6+2) undef);letI a1:=(ps.getD (i.toNat*6+4) undef);letI O:=(ps.getD (i.toNat*6+5) undef);
  (aP Tryz.prog (Ha K G) 19 [1,2,3] (lb 19 eF) (false :: eF) (eR er i n ts m ps) (ef er i n ts m ps)=(bif decide (i < (↑n:Int)) then (bif decide (0≤i)&&decide (i < (↑n:Int)) then (bif aL M I J&&G.br (ag I) (ag J) then (bif !decide (G.ck (ar M) (ag I) (ag J)=0) then some (.ret,ao 59 [(1,(.ptr 0 0)),(2,(.val (.int .i64 1))),(3,(.val (.int .i64 i)))], [(.row (.cells [(.lst false 27 n (af 3 ts)),(.lst false 35 m (af 6 ps))]) 25 .live)]) else (bif decide (0≤i)&&decide (i < (↑m:Int)) then (bif aL (ps.getD (i.toNat*6+0) undef) ab aE&&aL (ps.getD (i.toNat*6+3) undef) a1 O&&(K.ok (ag ab) (ag aE)&&K.ok (ag a1) (ag O)) then (bif !decide (K.kv (ar (ps.getD (i.toNat*6+0) undef)) (ag ab) (ag aE) (ar (ps.getD (i.toNat*6+3) undef)) (ag a1) (ag O)=0) then some (.ret,ao 59 [(1,(.ptr 0 0)),(2,(.val (.int .i64 1))),(3,(.val (.int .i64 i)))], [(.row (.cells [(.lst false 27 n (af 3 ts)),(.lst false 35 m (af 6 ps))]) 25 .live)]) else (bif decide (0 < i) then (bif ah IntKind.i64 (i - 1) then (bif decide (0≤i - 1)&&decide (i - 1 < (↑n:Int)) then (bif decide (0≤i)&&decide (i < (↑n:Int)) then (bif aL (ts.getD ((i - 1).toNat*3+0) undef) U Z&&aL M I J&&(G.br (ag U) (ag Z)&&G.br (ag I) (ag J)) then (bif decide (0≤G.cq (G.qv (ar (ts.getD ((i - 1).toNat*3+0) undef)) (ag U) (ag Z)) (G.qv (ar M) (ag I) (ag J))) then some (.ret,ao 59 [(1,(.ptr 0 0)),(2,(.val (.int .i64 8))),(3,(.val (.int .i64 i)))], [(.row (.cells [(.lst false 27 n (af 3 ts)),(.lst false 35 m (af 6 ps))]) 25 .live)]) else a6) else none) else none) else none) else none) else a6)) else none) else none)) else none) else none) else some ((.exit 0),ao 59 [(1,(.ptr 0 0)),(2,(.val (.int .i64 er))),(3,(.val (.int .i64 i)))], [(.row (.cells [(.lst false 27 n (af 3 ts)),(.lst false 35 m (af 6 ps))]) 25 .live)]))):=by kernel_rfl
theorem rX {er i:Int} {n:Nat} {ts:List Value} {m:Nat} {ps:List Value} {e:Ex} {T:List AV} {H:Hp} (h:aP Tryz.prog (Ha bd ad) 19 [1,2,3] (lb 19 eF) (false :: eF) (eR er i n ts m ps) (ef er i n ts m ps)=some (e,T,H)):V.Ends Tryz.prog false 0 0 (lb 19 eF) (eR er i n ts m ps) (ef er i n ts m ps) e T H:=
 bK ((((aK _).add VN.cG).add VZ.gP).add J6.gR) aO mixed Tc h
section
variable {n : Nat} {ts ps : List Value} {er : Int}
theorem KY (i:Nat) (hi:i < n) (bD:n≤1000) (I:∀ j,j < n→dc ts j=true) (bx:∀ j,j < n→c8 ps j=true) (h:bE ts ps i=0):V.Ends Tryz.prog false 0 0 (lb 19 eF) (eR er i n ts n ps) (ef er i n ts n ps) .normal (eR er ((i+1:Nat):Int) n ts n ps) (ef er ((i+1:Nat):Int) n ts n ps):=by
 obtain ⟨g1,g2,aE⟩:=qA h
 obtain ⟨J,M⟩:=cg (I i hi)
 obtain ⟨⟨O,U⟩,Z,ab⟩:=mB (bx i hi)
 have G:=Ef bd ad er i n ts n ps
 simp only [Int.toNat_natCast,Nat.zero_add] at G
 rw [dT (show (i:Int) < (n:Int) by omega),dT (show (0:Int)≤(i:Int) by omega),J,yv M] at G
 rw [dT g1,O,U,Z,ab,dT (show bd.kv (ar (ps.getD (i*6+0) undef)) (ag (ps.getD (i*6+1) undef)) (ag (ps.getD (i*6+2) undef)) (ar (ps.getD (i*6+3) undef)) (ag (ps.getD (i*6+4) undef)) (ag (ps.getD (i*6+5) undef))=0 from g2)] at G
 by_cases a7:i=0
 ·subst a7
  exact rX G
 ·have a1:=aE (by omega)
  obtain ⟨j,rfl⟩:∃ j,i=j+1:= ⟨i - 1,by omega⟩
  obtain ⟨c1,c2⟩:=cg (I j (by omega))
  have e1:((j+1:Nat):Int) - 1=(j:Int):=by omega
  simp only [e1,Int.toNat_natCast] at G
  rw [dT (show (0:Int) < ((j+1:Nat):Int) by omega),aJ (z:=(j:Int)) (by omega),dT (show (0:Int)≤(j:Int) by omega),dT (show (j:Int) < (n:Int) by omega),c1,yv c2,aJ (z:=((j+1:Nat):Int)+1) (by omega)] at G
  have a6:¬ 0≤ad.cq (ad.qv (ar (ts.getD (j*3+0) undef)) (ag (ts.getD (j*3+1) undef)) (ag (ts.getD (j*3+2) undef))) (ad.qv (ar (ts.getD ((j+1)*3+0) undef)) (ag (ts.getD ((j+1)*3+1) undef)) (ag (ts.getD ((j+1)*3+2) undef))):=a1
  rw [dF a6] at G
  exact rX G
theorem W7 (i:Nat) (hi:i < n) (bD:n≤1000) (Z:∀ j,j < n→dc ts j=true) (a7:∀ j,j < n→c8 ps j=true) (h:¬ bE ts ps i=0):V.Ends Tryz.prog false 0 0 (lb 19 eF) (eR er i n ts n ps) (ef er i n ts n ps) .ret (eR (bE ts ps i) i n ts n ps) (ef (bE ts ps i) i n ts n ps):=by
 obtain ⟨ab,aE⟩:=cg (Z i hi)
 obtain ⟨⟨J,M⟩,O,U⟩:=mB (a7 i hi)
 have G:=Ef bd ad er i n ts n ps
 simp only [Int.toNat_natCast,Nat.zero_add] at G
 rw [dT (show (i:Int) < (n:Int) by omega),dT (show (0:Int)≤(i:Int) by omega),ab,yv aE] at G
 rcases Jq h with ⟨g1,I⟩ | ⟨g1,g2,I⟩ | ⟨g1,g2,bx,a1,I⟩ <;> rw [I]
 ·rw [dF g1] at G
  exact rX G
 ·rw [dT g1,J,M,O,U,dF (show ¬ bd.kv (ar (ps.getD (i*6+0) undef)) (ag (ps.getD (i*6+1) undef)) (ag (ps.getD (i*6+2) undef)) (ar (ps.getD (i*6+3) undef)) (ag (ps.getD (i*6+4) undef)) (ag (ps.getD (i*6+5) undef))=0 from g2)] at G
  exact rX G
 ·rw [dT g1,J,M,O,U,dT (show bd.kv (ar (ps.getD (i*6+0) undef)) (ag (ps.getD (i*6+1) undef)) (ag (ps.getD (i*6+2) undef)) (ar (ps.getD (i*6+3) undef)) (ag (ps.getD (i*6+4) undef)) (ag (ps.getD (i*6+5) undef))=0 from g2)] at G
  obtain ⟨j,rfl⟩:∃ j,i=j+1:= ⟨i - 1,by omega⟩
  obtain ⟨c1,c2⟩:=cg (Z j (by omega))
  have e1:((j+1:Nat):Int) - 1=(j:Int):=by omega
  simp only [e1,Int.toNat_natCast] at G
  rw [dT (show (0:Int) < ((j+1:Nat):Int) by omega),aJ (z:=(j:Int)) (by omega),dT (show (0:Int)≤(j:Int) by omega),dT (show (j:Int) < (n:Int) by omega),c1,yv c2] at G
  have a6:0≤ad.cq (ad.qv (ar (ts.getD (j*3+0) undef)) (ag (ts.getD (j*3+1) undef)) (ag (ts.getD (j*3+2) undef))) (ad.qv (ar (ts.getD ((j+1)*3+0) undef)) (ag (ts.getD ((j+1)*3+1) undef)) (ag (ts.getD ((j+1)*3+2) undef))):=a1
  rw [dT a6] at G
  exact rX G
theorem W6 (G:n≤1000) (J:∀ j,j < n→dc ts j=true) (I:∀ j,j < n→c8 ps j=true) (h:∀ j,j < n→bE ts ps j=0) (k:Nat):∀ i:Nat,n=i+k→aA Tryz.prog (lb 19 eF) (eR er i n ts n ps) (ef er i n ts n ps) (.exit 0) (eR er n n ts n ps) (ef er n n ts n ps):=by
 induction k with
 | zero=>
  intro i hi
  have:i=n:=by omega
  subst this
  refine .last (rX ?_) (by intro h;cases h)
  rw [Ef,dF (show ¬ ((i:Nat):Int) < (i:Int) by omega)]
  rfl
 | succ k M=>
  intro i hi
  exact .more (KY i (by omega) G J I (h i (by omega))) (M (i+1) (by omega))
theorem Xb (G:n≤1000) (J:∀ j,j < n→dc ts j=true) (I:∀ j,j < n→c8 ps j=true) (q:Nat) (O:q < n) (h:∀ j,j < q→bE ts ps j=0) (M:¬ bE ts ps q=0) (k:Nat):∀ i:Nat,q=i+k→aA Tryz.prog (lb 19 eF) (eR er i n ts n ps) (ef er i n ts n ps) .ret (eR (bE ts ps q) q n ts n ps) (ef (bE ts ps q) q n ts n ps):=by
 induction k with
 | zero=>
  intro i hi
  have:i=q:=by omega
  subst this
  exact .last (W7 i O G J I M) (by intro h;cases h)
 | succ k U=>
  intro i hi
  exact .more (KY i (by omega) G J I (h i (by omega))) (U (i+1) (by omega))
end
def uE (er i:Int) (n:Nat) (ts:List Value) (m:Nat) (ps:List Value):Prop:=n=m∧i=0∧n≤1000∧(∀ j,j < n→dc ts j=true)∧(∀ j,j < n→c8 ps j=true)∧∀ j,j < n→bE ts ps j=0
def Ds (er i:Int) (n:Nat) (ts:List Value) (m:Nat) (ps:List Value) (ρ:Int):Prop:=True
theorem Yj (er i:Int) (n:Nat) (ts:List Value) (m:Nat) (ps:List Value) (h:uE er i n ts m ps):∃ ρ:Int,aA Tryz.prog (lb 19 eF) (eR er i n ts m ps) (ef er i n ts m ps) (.exit 0) (eR er ρ n ts m ps) (ef er ρ n ts m ps)∧Ds er i n ts m ps ρ:=by
 obtain ⟨rfl,rfl,G,J,I,h⟩:=h
 exact ⟨_,W6 G J I h _ 0 (Nat.zero_add _).symm,trivial⟩
def FZ (M:Int→Int→Nat→List Value→Nat→List Value→Bool) (J:Int→Int→Nat→List Value→Nat→List Value→Int) (T:List AV) (H:Hp):Option (Bool×Ex×List AV×Hp):=
 match al T 1,al T 2,al T 3,H with
 | .ptr 0 0, .val (.int .i64 er), .val (.int .i64 i), [.row (.cells [.lst false 27 n I, .lst false 35 m G]) 25 .live]=>bif T.length==59 then some (aw 3 n I&&aw 6 m G&&M er i n (ai 3 n I) m (ai 6 m G), .exit 0,eR er ((J er i n (ai 3 n I) m (ai 6 m G))) n (ai 3 n I) m (ai 6 m G),ef er ((J er i n (ai 3 n I) m (ai 6 m G))) n (ai 3 n I) m (ai 6 m G)) else none
 | _,_,_,_=>none
abbrev H9:Type:=Int→Int→Nat→List Value→Nat→List Value→Bool
abbrev HC:Type:=Int→Int→Nat→List Value→Nat→List Value→Int
def Bh (G:H9) (I:HC) (L:aD):aD:=bu 0 19 eF [1,2,3] (FZ G I) L
def rE (er i:Int) (n:Nat) (ts:List Value) (m:Nat) (ps:List Value):Int:=Classical.epsilon fun ρ=>aA Tryz.prog (lb 19 eF) (eR er i n ts m ps) (ef er i n ts m ps) (.exit 0) (eR er (ρ) n ts m ps) (ef er (ρ) n ts m ps)∧Ds er i n ts m ps ρ
theorem ZS (er i:Int) (n:Nat) (ts:List Value) (m:Nat) (ps:List Value) (h:uE er i n ts m ps):aA Tryz.prog (lb 19 eF) (eR er i n ts m ps) (ef er i n ts m ps) (.exit 0) (eR er ((rE er i n ts m ps)) n ts m ps) (ef er ((rE er i n ts m ps)) n ts m ps)∧Ds er i n ts m ps (rE er i n ts m ps):=Classical.epsilon_spec (Yj er i n ts m ps h)
def xl (er i:Int) (n:Nat) (ts:List Value) (m:Nat) (ps:List Value):Bool:= @decide (uE er i n ts m ps) (Classical.propDecidable _)
theorem T9 (er i:Int) (n:Nat) (ts:List Value) (m:Nat) (ps:List Value) (h:uE er i n ts m ps):xl er i n ts m ps=true:= @decide_eq_true _ (Classical.propDecidable _) h
theorem adj (T:List AV) (H:Hp) (e:Ex) (J:List AV) (I:Hp) (h:FZ xl rE T H=some (true,e,J,I)):V.Ends Tryz.prog false 0 0 (.loop (lb 19 eF)) T H e J I:=by
 unfold FZ at h
 split at h
 ·rename_i er i n Z m U ab aE a1
  rw [Bool.cond_eq_ite] at h
  split at h
  ·rename_i M
   rw [beq_iff_eq] at M
   simp only [Option.some.injEq,Prod.mk.injEq,Bool.and_eq_true,decide_eq_true_eq] at h
   obtain ⟨⟨⟨k1,bx⟩,bD⟩,rfl,rfl,rfl⟩:=h
   have b0:= @of_decide_eq_true _ (Classical.propDecidable _) bD
   refine Ends.pre (Ends.iM (ZS er i n (ai 3 n Z) m (ai 6 m U) b0).1.ends (bL.cons ⟨⟨rfl,fun _ _ _ _ _ a6=>mV (by kernel_rfl) (by kernel_rfl) k1 bx a6⟩,rfl,rfl⟩ bL.nil)) (fun α B w D b1 a7=>bw M (fun p O y G=> ?_) a7)
   simp only [List.mem_cons,List.not_mem_nil,or_false] at O
   rcases O with rfl | rfl | rfl
   ·rw [ab] at G;exact G
   ·rw [aE] at G;exact G
   ·rw [a1] at G;exact G
  ·cases h
 ·cases h
theorem Qi {L:aD} (h:aC Tryz.prog L):aC Tryz.prog (Bh xl rE L):=h.bC Rt adj
abbrev pw:List Bool:= [false,true,false,true,true,true,true]
def pN (er i:Int) (n:Nat) (ts:List Value) (m:Nat) (ps:List Value):List AV:=ao 59 [(1, .ptr 0 0),(2, .val (.int .i64 er)),(3, .val (.int .i64 i))]
def oT (er i:Int) (n:Nat) (ts:List Value) (m:Nat) (ps:List Value):Hp:= [.row (.cells [.lst false 27 n (af 3 ts), .lst false 35 m (af 6 ps)]) 25 .live]
theorem Ru:aI Tryz.prog 19 pw=some (.loop (lb 19 pw)):=by kernel_rfl
def uF (er i:Int) (n:Nat) (ts:List Value) (m:Nat) (ps:List Value):Prop:=n=m∧i=0∧n≤1000∧(∀ j,j < n→dc ts j=true)∧(∀ j,j < n→c8 ps j=true)∧∃ q,q < n∧(∀ j,j < q→bE ts ps j=0)∧¬ bE ts ps q=0
def Dt (er i:Int) (n:Nat) (ts:List Value) (m:Nat) (ps:List Value) (ρ:Int×Int):Prop:=ρ.1=dK ts ps n
theorem Yk (er i:Int) (n:Nat) (ts:List Value) (m:Nat) (ps:List Value) (h:uF er i n ts m ps):∃ ρ:Int×Int,aA Tryz.prog (lb 19 pw) (pN er i n ts m ps) (oT er i n ts m ps) .ret (pN ρ.1 ρ.2 n ts m ps) (oT ρ.1 ρ.2 n ts m ps)∧Dt er i n ts m ps ρ:=by
 obtain ⟨rfl,rfl,I,O,J,q,M,h,G⟩:=h
 have e:=Jr h G (n - (q+1))
 rw [show q+1+(n - (q+1))=n by omega] at e
 exact ⟨(bE ts ps q,(q:Int)),Xb I O J q M h G q 0 (by omega),e.symm⟩
def F0 (M:Int→Int→Nat→List Value→Nat→List Value→Bool) (J:Int→Int→Nat→List Value→Nat→List Value→Int×Int) (T:List AV) (H:Hp):Option (Bool×Ex×List AV×Hp):=
 match al T 1,al T 2,al T 3,H with
 | .ptr 0 0, .val (.int .i64 er), .val (.int .i64 i), [.row (.cells [.lst false 27 n I, .lst false 35 m G]) 25 .live]=>bif T.length==59 then some (aw 3 n I&&aw 6 m G&&M er i n (ai 3 n I) m (ai 6 m G), .ret,pN ((J er i n (ai 3 n I) m (ai 6 m G)).1) ((J er i n (ai 3 n I) m (ai 6 m G)).2) n (ai 3 n I) m (ai 6 m G),oT ((J er i n (ai 3 n I) m (ai 6 m G)).1) ((J er i n (ai 3 n I) m (ai 6 m G)).2) n (ai 3 n I) m (ai 6 m G)) else none
 | _,_,_,_=>none
abbrev Ia:Type:=Int→Int→Nat→List Value→Nat→List Value→Bool
abbrev HD:Type:=Int→Int→Nat→List Value→Nat→List Value→Int×Int
def Bi (G:Ia) (I:HD) (L:aD):aD:=bu 0 19 pw [1,2,3] (F0 G I) L
def mL (er i:Int) (n:Nat) (ts:List Value) (m:Nat) (ps:List Value):Int×Int:=Classical.epsilon fun ρ=>aA Tryz.prog (lb 19 pw) (pN er i n ts m ps) (oT er i n ts m ps) (.ret) (pN (ρ.1) (ρ.2) n ts m ps) (oT (ρ.1) (ρ.2) n ts m ps)∧Dt er i n ts m ps ρ
theorem Mz (er i:Int) (n:Nat) (ts:List Value) (m:Nat) (ps:List Value) (h:uF er i n ts m ps):aA Tryz.prog (lb 19 pw) (pN er i n ts m ps) (oT er i n ts m ps) (.ret) (pN ((mL er i n ts m ps).1) ((mL er i n ts m ps).2) n ts m ps) (oT ((mL er i n ts m ps).1) ((mL er i n ts m ps).2) n ts m ps)∧Dt er i n ts m ps (mL er i n ts m ps):=Classical.epsilon_spec (Yk er i n ts m ps h)
def xm (er i:Int) (n:Nat) (ts:List Value) (m:Nat) (ps:List Value):Bool:= @decide (uF er i n ts m ps) (Classical.propDecidable _)
theorem Ua (er i:Int) (n:Nat) (ts:List Value) (m:Nat) (ps:List Value) (h:uF er i n ts m ps):xm er i n ts m ps=true:= @decide_eq_true _ (Classical.propDecidable _) h
theorem adk (T:List AV) (H:Hp) (e:Ex) (J:List AV) (I:Hp) (h:F0 xm mL T H=some (true,e,J,I)):V.Ends Tryz.prog false 0 0 (.loop (lb 19 pw)) T H e J I:=by
 unfold F0 at h
 split at h
 ·rename_i er i n Z m U ab aE a1
  rw [Bool.cond_eq_ite] at h
  split at h
  ·rename_i M
   rw [beq_iff_eq] at M
   simp only [Option.some.injEq,Prod.mk.injEq,Bool.and_eq_true,decide_eq_true_eq] at h
   obtain ⟨⟨⟨k1,bx⟩,bD⟩,rfl,rfl,rfl⟩:=h
   have b0:= @of_decide_eq_true _ (Classical.propDecidable _) bD
   refine Ends.pre (Ends.iM (Mz er i n (ai 3 n Z) m (ai 6 m U) b0).1.ends (bL.cons ⟨⟨rfl,fun _ _ _ _ _ a6=>mV (by kernel_rfl) (by kernel_rfl) k1 bx a6⟩,rfl,rfl⟩ bL.nil)) (fun α B w D b1 a7=>bw M (fun p O y G=> ?_) a7)
   simp only [List.mem_cons,List.not_mem_nil,or_false] at O
   rcases O with rfl | rfl | rfl
   ·rw [ab] at G;exact G
   ·rw [aE] at G;exact G
   ·rw [a1] at G;exact G
  ·cases h
 ·cases h
theorem Qj {L:aD} (h:aC Tryz.prog L):aC Tryz.prog (Bi xm mL L):=h.bC Ru adk
end
end Go.Proofs.YtamcpiicmfielaaGreat.L
namespace Go.Proofs.YtamcpiicmfielaaGreat.L
open Go Go.V Go.RowKit Go.Proofs.YtamcpiicmfielaaGreat.Sp
open Go.Proofs (Tryz.prog)
noncomputable section
abbrev bO (n:Nat) (ts:List Value) (m:Nat) (ps:List Value):AV:= .agg [.lst false 27 n (af 3 ts), .lst false 35 m (af 6 ps)]
structure Cg where
 ck:Nat→List Value→Nat→List Value→Int
 ko:Nat→List Value→Nat→List Value→Bool
def bQ (n:Nat) (ts:List Value) (m:Nat) (ps:List Value):Bool:=(List.range n).all (dc ts)&&(List.range m).all (c8 ps)
def bn:Cg where
 ck:=bb
 ko:=bQ
theorem qU {n:Nat} {ts:List Value} {m:Nat} {ps:List Value} (h:bQ n ts m ps=true):(∀ j,j < n→dc ts j=true)∧∀ j,j < m→c8 ps j=true:=by
 unfold bQ at h
 rw [Bool.and_eq_true] at h
 exact ⟨fun j G=>wH h.1 G,fun j G=>wH h.2 G⟩
def pS (G:Cg):TF:=fun args=>match args with
 | [.agg [.lst _ 27 n f, .lst _ 35 m g]]=>some (aw 3 n f&&aw 6 m g&&G.ko n (ai 3 n f) m (ai 6 m g), .val (.int .i64 (G.ck n (ai 3 n f) m (ai 6 m g))))
 | _=>none
theorem Xc (G:Ib) (I:HE) (n:Nat) (ts:List Value) (m:Nat) (ps:List Value):aG Tryz.prog ⟨aM,az,Bj G I aq⟩ 10 10 18 [bO n ts m ps]=
  (bif !decide ((↑n:Int)=(↑m:Int)) then some (.val (.int .i64 9)) else (bif decide ((↑n:Int)=0) then some (.val (.int .i64 11)) else (bif decide (1000 < (↑n:Int)) then some (.val (.int .i64 4)) else (bif aw 3 n (af 3 ts)&&aw 3 n (af 3 ts)&&aw 6 m (af 6 ps)&&G (0:Int) n (ai 3 n (af 3 ts)) (↑n:Int) (0:Int) n (ai 3 n (af 3 ts)) m (ai 6 m (af 6 ps)) then some (.val (.int .i64 0)) else none)))):=by kernel_rfl
theorem Xi (G:Ic) (I:HF) (n:Nat) (ts:List Value) (m:Nat) (ps:List Value):aG Tryz.prog ⟨aM,az,Bk G I aq⟩ 10 10 18 [bO n ts m ps]=
  (bif !decide ((↑n:Int)=(↑m:Int)) then some (.val (.int .i64 9)) else (bif decide ((↑n:Int)=0) then some (.val (.int .i64 11)) else (bif decide (1000 < (↑n:Int)) then some (.val (.int .i64 4)) else (bif aw 3 n (af 3 ts)&&aw 3 n (af 3 ts)&&aw 6 m (af 6 ps)&&G (0:Int) n (ai 3 n (af 3 ts)) (↑n:Int) (0:Int) n (ai 3 n (af 3 ts)) m (ai 6 m (af 6 ps)) then some (.val (.int .i64 ((I (0:Int) n (ai 3 n (af 3 ts)) (↑n:Int) (0:Int) n (ai 3 n (af 3 ts)) m (ai 6 m (af 6 ps))).fst))) else none)))):=by kernel_rfl
theorem W5 (G:H9) (I:HC) (n:Nat) (ts:List Value) (m:Nat) (ps:List Value):aG Tryz.prog ⟨aM,az,Bh G I aq⟩ 10 10 19 [bO n ts m ps]=
  (bif !decide ((↑n:Int)=(↑m:Int)) then some (.val (.int .i64 9)) else (bif decide ((↑n:Int)=0) then some (.val (.int .i64 11)) else (bif decide (1000 < (↑n:Int)) then some (.val (.int .i64 4)) else (bif aw 3 n (af 3 ts)&&aw 6 m (af 6 ps)&&G (0:Int) (0:Int) n (ai 3 n (af 3 ts)) m (ai 6 m (af 6 ps)) then some (.val (.int .i64 0)) else none)))):=by kernel_rfl
theorem Xa (G:Ia) (I:HD) (n:Nat) (ts:List Value) (m:Nat) (ps:List Value):aG Tryz.prog ⟨aM,az,Bi G I aq⟩ 10 10 19 [bO n ts m ps]=
  (bif !decide ((↑n:Int)=(↑m:Int)) then some (.val (.int .i64 9)) else (bif decide ((↑n:Int)=0) then some (.val (.int .i64 11)) else (bif decide (1000 < (↑n:Int)) then some (.val (.int .i64 4)) else (bif aw 3 n (af 3 ts)&&aw 6 m (af 6 ps)&&G (0:Int) (0:Int) n (ai 3 n (af 3 ts)) m (ai 6 m (af 6 ps)) then some (.val (.int .i64 ((I (0:Int) (0:Int) n (ai 3 n (af 3 ts)) m (ai 6 m (af 6 ps))).fst))) else none)))):=by kernel_rfl
theorem oX {fl G:Bool} {n m:Nat} {f g:Nat→Nat→AV} (I:aw 3 n f=true) (J:aw 6 m g=true):cI (.agg [.lst fl 27 n f, .lst G 35 m g]) (bO n (ai 3 n f) m (ai 6 m g)):=
 cI.agg (cm.cons (cI.row (by kernel_rfl) I) (cm.cons (cI.row (by kernel_rfl) J) (cm.refl _)))
theorem Jp {f:FuncId} (Z:fQ Tryz.prog f=true) (H:∀ (n:Nat) (ts:List Value) (m:Nat) (ps:List Value),ts.length=n*3→ps.length=m*6→bQ n ts m ps=true→∃ (E:Env) (u d:Nat),bf Tryz.prog E.C∧dg Tryz.prog E∧aG Tryz.prog E u d f [bO n ts m ps]=some (.val (.int .i64 (bb n ts m ps)))):Entry Tryz.prog f (pS bn):=by
 refine oL Z (fun args r h=> ?_)
 unfold pS at h
 split at h
 ·rename_i fl n G ab m I
  simp only [Option.some.injEq,Prod.mk.injEq,Bool.and_eq_true] at h
  obtain ⟨⟨⟨M,O⟩,U⟩,rfl⟩:=h
  obtain ⟨E,u,d,c1,c2,J⟩:=H n (ai 3 n G) m (ai 6 m I) (dC 3 n G) (dC 6 m I) U
  exact ⟨E,u,d,_,_,c1,c2,J,cm.cons (oX M O) (cm.refl _),cI.refl _⟩
 ·cases h
theorem Xf (n:Nat) (ts:List Value) (m:Nat) (ps:List Value) (l1:ts.length=n*3) (l2:ps.length=m*6) (a7:bQ n ts m ps=true):∃ (E:Env) (u d:Nat),bf Tryz.prog E.C∧dg Tryz.prog E∧aG Tryz.prog E u d 18 [bO n ts m ps]=some (.val (.int .i64 (bb n ts m ps))):=by
 obtain ⟨ab,Z⟩:=qU a7
 by_cases U:dK ts ps n=0
 ·
  refine ⟨⟨aM,az,Bj xo rF aq⟩,10,10,aK _,(Qk aC.none).ok, ?_⟩
  rw [Xc]
  by_cases I:n=m
  ·subst I
   rw [dT (show (n:Int)=n from rfl)]
   by_cases G:n=0
   ·rw [dT (show (n:Int)=0 by omega)]
    unfold bb
    rw [if_neg (fun h=>h rfl),if_pos G];rfl
   rw [dF (show ¬ (n:Int)=0 by omega)]
   by_cases J:1000 < n
   ·rw [dT (show (1000:Int) < n by omega)]
    unfold bb
    rw [if_neg (fun h=>h rfl),if_neg G,if_pos J];rfl
   rw [dF (show ¬ (1000:Int) < n by omega),bj l1,bj l2,c9,c9]
   unfold bb
   rw [if_neg (fun h=>h rfl),if_neg G,if_neg J]
   have M:uG 0 n ts n 0 n ts n ps:= ⟨rfl,rfl,rfl,rfl,rfl,by omega,ab,Z,BR U⟩
   rw [Ub _ _ _ _ _ _ _ _ _ M]
   rw [U];rfl
  ·rw [dF (show ¬ (n:Int)=(m:Int) by omega)]
   unfold bb
   rw [if_pos I];rfl
 ·
  refine ⟨⟨aM,az,Bk xp mM aq⟩,10,10,aK _,(Ql aC.none).ok, ?_⟩
  rw [Xi]
  by_cases I:n=m
  ·subst I
   rw [dT (show (n:Int)=n from rfl)]
   by_cases G:n=0
   ·rw [dT (show (n:Int)=0 by omega)]
    unfold bb
    rw [if_neg (fun h=>h rfl),if_pos G];rfl
   rw [dF (show ¬ (n:Int)=0 by omega)]
   by_cases J:1000 < n
   ·rw [dT (show (1000:Int) < n by omega)]
    unfold bb
    rw [if_neg (fun h=>h rfl),if_neg G,if_pos J];rfl
   rw [dF (show ¬ (1000:Int) < n by omega),bj l1,bj l2,c9,c9]
   unfold bb
   rw [if_neg (fun h=>h rfl),if_neg G,if_neg J]
   have M:uH 0 n ts n 0 n ts n ps:=by
    refine ⟨rfl,rfl,rfl,rfl,rfl,by omega,ab,Z, ?_⟩
    have aE:(List.range n).any (fun j=> !decide (bE ts ps j=0))=true:=by
     rw [List.any_eq_true]
     apply Classical.byContradiction
     intro a6
     refine U (w5 fun j O=>Classical.byContradiction fun a1=>a6 ⟨j,List.mem_range.2 O, ?_⟩)
     rw [decide_eq_false a1];rfl
    obtain ⟨q,q1,q2,bx⟩:=xO n aE
    refine ⟨q,q1,fun j O=> ?_, ?_⟩
    ·have:=q2 j O
     rwa [Bool.not_eq_false',decide_eq_true_eq] at this
    ·rwa [Bool.not_eq_true',decide_eq_false_iff_not] at bx
   rw [Uc _ _ _ _ _ _ _ _ _ M]
   rw [show (mM 0 n ts n 0 n ts n ps).1=dK ts ps n from (MA _ _ _ _ _ _ _ _ _ M).2];rfl
  ·rw [dF (show ¬ (n:Int)=(m:Int) by omega)]
   unfold bb
   rw [if_pos I];rfl
theorem W8 (n:Nat) (ts:List Value) (m:Nat) (ps:List Value) (l1:ts.length=n*3) (l2:ps.length=m*6) (a7:bQ n ts m ps=true):∃ (E:Env) (u d:Nat),bf Tryz.prog E.C∧dg Tryz.prog E∧aG Tryz.prog E u d 19 [bO n ts m ps]=some (.val (.int .i64 (bb n ts m ps))):=by
 obtain ⟨ab,Z⟩:=qU a7
 by_cases U:dK ts ps n=0
 ·
  refine ⟨⟨aM,az,Bh xl rE aq⟩,10,10,aK _,(Qi aC.none).ok, ?_⟩
  rw [W5]
  by_cases I:n=m
  ·subst I
   rw [dT (show (n:Int)=n from rfl)]
   by_cases G:n=0
   ·rw [dT (show (n:Int)=0 by omega)]
    unfold bb
    rw [if_neg (fun h=>h rfl),if_pos G];rfl
   rw [dF (show ¬ (n:Int)=0 by omega)]
   by_cases J:1000 < n
   ·rw [dT (show (1000:Int) < n by omega)]
    unfold bb
    rw [if_neg (fun h=>h rfl),if_neg G,if_pos J];rfl
   rw [dF (show ¬ (1000:Int) < n by omega),bj l1,bj l2,c9,c9]
   unfold bb
   rw [if_neg (fun h=>h rfl),if_neg G,if_neg J]
   have M:uE 0 0 n ts n ps:= ⟨rfl,rfl,by omega,ab,Z,BR U⟩
   rw [T9 _ _ _ _ _ _ M]
   rw [U];rfl
  ·rw [dF (show ¬ (n:Int)=(m:Int) by omega)]
   unfold bb
   rw [if_pos I];rfl
 ·
  refine ⟨⟨aM,az,Bi xm mL aq⟩,10,10,aK _,(Qj aC.none).ok, ?_⟩
  rw [Xa]
  by_cases I:n=m
  ·subst I
   rw [dT (show (n:Int)=n from rfl)]
   by_cases G:n=0
   ·rw [dT (show (n:Int)=0 by omega)]
    unfold bb
    rw [if_neg (fun h=>h rfl),if_pos G];rfl
   rw [dF (show ¬ (n:Int)=0 by omega)]
   by_cases J:1000 < n
   ·rw [dT (show (1000:Int) < n by omega)]
    unfold bb
    rw [if_neg (fun h=>h rfl),if_neg G,if_pos J];rfl
   rw [dF (show ¬ (1000:Int) < n by omega),bj l1,bj l2,c9,c9]
   unfold bb
   rw [if_neg (fun h=>h rfl),if_neg G,if_neg J]
   have M:uF 0 0 n ts n ps:=by
    refine ⟨rfl,rfl,by omega,ab,Z, ?_⟩
    have aE:(List.range n).any (fun j=> !decide (bE ts ps j=0))=true:=by
     rw [List.any_eq_true]
     apply Classical.byContradiction
     intro a6
     refine U (w5 fun j O=>Classical.byContradiction fun a1=>a6 ⟨j,List.mem_range.2 O, ?_⟩)
     rw [decide_eq_false a1];rfl
    obtain ⟨q,q1,q2,bx⟩:=xO n aE
    refine ⟨q,q1,fun j O=> ?_, ?_⟩
    ·have:=q2 j O
     rwa [Bool.not_eq_false',decide_eq_true_eq] at this
    ·rwa [Bool.not_eq_true',decide_eq_false_iff_not] at bx
   rw [Ua _ _ _ _ _ _ M]
   rw [show (mL 0 0 n ts n ps).1=dK ts ps n from (Mz _ _ _ _ _ _ M).2];rfl
  ·rw [dF (show ¬ (n:Int)=(m:Int) by omega)]
   unfold bb
   rw [if_pos I];rfl
theorem JQ:Entry Tryz.prog 18 (pS bn):=Jp (by kernel_rfl) Xf
theorem J2:Entry Tryz.prog 19 (pS bn):=Jp (by kernel_rfl) W8
end
end Go.Proofs.YtamcpiicmfielaaGreat.L
namespace Go.Proofs.YtamcpiicmfielaaGreat.L
open Go Go.V Go.RowKit Go.Proofs.YtamcpiicmfielaaGreat.Sp Go.Proofs.YtamcpiicmfielaaGreat.F
open Go.Proofs (Tryz.prog)
noncomputable section
def toBC:Nat→Nat→List UInt8
 | 0,_=> []
 | k+1,n=>if n=0 then [] else toBC k (n / 256) ++ [UInt8.ofNat n]
theorem toBC_eq (k:Nat):∀ n,n < 256 ^ k→toBC k n=toB n:=by
 induction k with
 | zero=>
  intro n h
  have:n=0:=by rw [Nat.pow_zero] at h;omega
  subst this
  unfold toB;rfl
 | succ k I=>
  intro n h
  unfold toB toBC
  by_cases G:n=0
  ·rw [if_pos G,dif_pos G]
  ·rw [if_neg G,dif_neg G,I (n / 256) (by rw [Nat.pow_succ] at h;exact Nat.div_lt_of_lt_mul (by rw [Nat.mul_comm];exact h))]
def qY (n:Nat):ByteArray:=if n < 281474976710656 then ⟨(toBC 6 n).toArray⟩ else av n
theorem LC:qY=av:=by
 funext n
 unfold qY
 split
 ·rename_i h
  rw [toBC_eq 6 n h];rfl
 ·rfl
def N0 (mg:Nat→ByteArray):Sg:= { aa with ms:=fun z=>mg z.natAbs }
def M7 (mg:Nat→ByteArray) (q:Rat):ByteArray:=if q.den=1 then ByteArray.mk #[] else mg q.den
def Ob (mg:Nat→ByteArray):Qg:= { ad with
 qs:=fun q=>mg q.num.natAbs
 qd:=M7 mg
 ck:=fun b n d=>bif (b==vk (iN b n d))&&aF n (mg (iN b n d).num.natAbs)&&aF d (M7 mg (iN b n d)) then 0 else 1 }
theorem abC:aa=N0 qY:=by rw [LC];rfl
theorem abS:ad=Ob qY:=by rw [LC];rfl
def GQ (S:Sg) (X:Xg) (G:Qg):FuncId→TF:=au 87 (FA X G) (au 28 (zA G) (au 29 (pV G) (au 31 (r8 G) (au 30 (vQ G) (au 42 (zB G) (au 23 (nj G) (au 27 (zC G) (au 49 (oe G) (au 122 (Fz S G) (au 84 (pW S X G) (au 123 (FD S X) (au 69 (kC S) (au 75 (kB S) (au 64 (oc S) aM))))))))))))))
theorem PG:bf Tryz.prog (GQ aa aY ad):=(((((((((((((((aK _).add JR).add xB).add xD).add V1).add Ca).add VJ).add qI).add J0).add lp).add JZ).add B9).add xF).add xE).add JY).add VM
def sB:FuncId→Bool:=fun g=> !(g==98 ||g==99)
def Fj:TF:=fun args=>match args with | []=>some (true, .val (.bool true)) | _=>none
theorem Q9:aG Tryz.prog ⟨GQ (N0 qY) aY (Ob qY),sB,aq⟩ 20 20 9 []=some (.val (.bool true)):=by kernel_rfl
theorem JP:Entry Tryz.prog 9 Fj:=aZ PG aO mixed (by kernel_rfl) (fun args r h=>by
 unfold Fj at h
 split at h
 ·cases h;rw [abC,abS];exact Q9
 ·cases h)
end
end Go.Proofs.YtamcpiicmfielaaGreat.L
namespace Go.Proofs.YtamcpiicmfielaaGreat.L
open Go Go.V Go.RowKit Go.Proofs.YtamcpiicmfielaaGreat.Sp
open Go.Proofs (Tryz.prog)
noncomputable section
def Qg.pair (G:Qg) (a b:Rat):AV:= .agg [.val (.bool (G.qn a)), .val (.string (G.qs a)), .val (.string (G.qd a)), .val (.bool (G.qn b)), .val (.string (G.qs b)), .val (.string (G.qd b))]
theorem Pv (G:Qg) (b c bx c2 ab:Bool) (n d m e n2 aE m2 a1 J I:BA):letI U:=(G.qv bx n2 aE - G.qv b n d);letI M:=(G.qv (G.qn U) (G.qs U) (G.qd U)*G.qv ab J I);letI Z:=(G.qv c2 m2 a1 - G.qv c m e);letI O:=(G.qv (G.qn Z) (G.qs Z) (G.qd Z)*G.qv ab J I);letI a6:=(G.qv b n d+G.qv (G.qn M) (G.qs M) (G.qd M));letI a7:=(G.qv c m e+G.qv (G.qn O) (G.qs O) (G.qd O));
  (aG Tryz.prog ⟨wh G,az,aq⟩ 10 10 32 [w6 b n d c m e,w6 bx n2 aE c2 m2 a1,w3 ab J I]=(bif G.ok n2 aE&&G.ok n d then (bif G.ok m2 a1&&G.ok m e then (bif G.ok (G.qs U) (G.qd U)&&G.ok J I then (bif G.ok (G.qs Z) (G.qd Z)&&G.ok J I then (bif G.ok n d&&G.ok (G.qs M) (G.qd M) then (bif G.ok m e&&G.ok (G.qs O) (G.qd O) then some (.agg [(.val (.bool (G.qn a6))),(.val (.string (G.qs a6))),(.val (.string (G.qd a6))),(.val (.bool (G.qn a7))),(.val (.string (G.qs a7))),(.val (.string (G.qd a7)))]) else none) else none) else none) else none) else none) else none)):=by kernel_rfl
def Hj (G:Qg):Env:= ⟨au 23 (cG (nj G)) aM,sB,aq⟩
abbrev gw:List Bool:= [false,false,true,true]
def kr (n0 i j:Int) (n:Nat) (ts:List Value) (m:Nat) (ps:List Value) (xb:Bool) (xn xd:ByteArray) (z0:Bool) (z1 z2:ByteArray) (z3:Bool) (z4 z5:ByteArray):List AV:=ao 26 [(0, .val (.int .i64 n0)),(1, .clo (.func 99) [] [.ptr 0 0,.ptr 1 0]),(5, .val (.int .i64 i)),(6, .val (.int .i64 j))]
def jG (n0 i j:Int) (n:Nat) (ts:List Value) (m:Nat) (ps:List Value) (xb:Bool) (xn xd:ByteArray) (z0:Bool) (z1 z2:ByteArray) (z3:Bool) (z4 z5:ByteArray):Hp:= [.row (.cells [.lst false 27 n (af 3 ts), .lst false 35 m (af 6 ps)]) 25 .live, .row (.cells [.val (.bool xb), .val (.string xn), .val (.string xd)]) 27 .live, .row (.cells [.val (.bool z0), .val (.string z1), .val (.string z2), .val (.bool z3), .val (.string z4), .val (.string z5)]) 35 .live]
theorem RW:aI Tryz.prog 98 gw=some (.loop (lb 98 gw)):=by kernel_rfl
theorem TK:aI Tryz.prog 98 (false :: gw)=some (lb 98 gw):=by kernel_rfl
theorem NI (I:Qg) (n0 i j:Int) (n:Nat) (ts:List Value) (m:Nat) (ps:List Value) (xb:Bool) (xn xd:ByteArray) (z0:Bool) (z1 z2:ByteArray) (z3:Bool) (z4 z5:ByteArray):letI G:=((IntKind.u64.wrap (i+j)).fdiv (2:Int));letI J:=(ts.getD ((IntKind.i64.wrap G).toNat*3+1) undef);letI M:=(ts.getD ((IntKind.i64.wrap G).toNat*3+2) undef);
  (eL Tryz.prog (Hj I) 3 98 [0,1,5,6] (lb 98 gw) (false :: gw) (kr n0 i j n ts m ps xb xn xd z0 z1 z2 z3 z4 z5) (jG n0 i j n ts m ps xb xn xd z0 z1 z2 z3 z4 z5)=(bif decide (i < j) then (bif ah IntKind.i64 (i+j) then (bif decide (0≤IntKind.i64.wrap G)&&decide (IntKind.i64.wrap G < (↑n:Int)) then (bif aL (ts.getD ((IntKind.i64.wrap G).toNat*3+0) undef) J M&&true&&(I.ok (ag J) (ag M)&&I.ok xn xd) then (bif !decide (0≤I.cq (I.qv (ar (ts.getD ((IntKind.i64.wrap G).toNat*3+0) undef)) (ag J) (ag M)) (I.qv xb xn xd)) then (bif ah IntKind.i64 (IntKind.i64.wrap G+1) then some (.normal,ao 26 [(0,(.val (.int .i64 n0))),(1,(.clo (Fn.func (99:FuncId)) [] [(.ptr 0 0),(.ptr 1 0)])),(5,(.val (.int .i64 (IntKind.i64.wrap G+1)))),(6,(.val (.int .i64 j)))], [(.row (.cells [(.lst false 27 n (af 3 ts)),(.lst false 35 m (af 6 ps))]) 25 .live),(.row (.cells [(.val (.bool xb)),(.val (.string xn)),(.val (.string xd))]) 27 .live),(.row (.cells [(.val (.bool z0)),(.val (.string z1)),(.val (.string z2)),(.val (.bool z3)),(.val (.string z4)),(.val (.string z5))]) 35 .live)]) else none) else some (.normal,ao 26 [(0,(.val (.int .i64 n0))),(1,(.clo (Fn.func (99:FuncId)) [] [(.ptr 0 0),(.ptr 1 0)])),(5,(.val (.int .i64 i))),(6,(.val (.int .i64 (IntKind.i64.wrap G))))], [(.row (.cells [(.lst false 27 n (af 3 ts)),(.lst false 35 m (af 6 ps))]) 25 .live),(.row (.cells [(.val (.bool xb)),(.val (.string xn)),(.val (.string xd))]) 27 .live),(.row (.cells [(.val (.bool z0)),(.val (.string z1)),(.val (.string z2)),(.val (.bool z3)),(.val (.string z4)),(.val (.string z5))]) 35 .live)])) else none) else none) else none) else some ((.exit 0),ao 26 [(0,(.val (.int .i64 n0))),(1,(.clo (Fn.func (99:FuncId)) [] [(.ptr 0 0),(.ptr 1 0)])),(5,(.val (.int .i64 i))),(6,(.val (.int .i64 j)))], [(.row (.cells [(.lst false 27 n (af 3 ts)),(.lst false 35 m (af 6 ps))]) 25 .live),(.row (.cells [(.val (.bool xb)),(.val (.string xn)),(.val (.string xd))]) 27 .live),(.row (.cells [(.val (.bool z0)),(.val (.string z1)),(.val (.string z2)),(.val (.bool z3)),(.val (.string z4)),(.val (.string z5))]) 35 .live)]))):=by kernel_rfl
theorem E5 {n0 i j:Int} {n:Nat} {ts:List Value} {m:Nat} {ps:List Value} {xb:Bool} {xn xd:ByteArray} {z0:Bool} {z1 z2:ByteArray} {z3:Bool} {z4 z5:ByteArray} {e:Ex} {T:List AV} {H:Hp} (h:eL Tryz.prog (Hj ad) 3 98 [0,1,5,6] (lb 98 gw) (false :: gw) (kr n0 i j n ts m ps xb xn xd z0 z1 z2 z3 z4 z5) (jG n0 i j n ts m ps xb xn xd z0 z1 z2 z3 z4 z5)=some (e,T,H)):V.Ends Tryz.prog false 3 0 (lb 98 gw) (kr n0 i j n ts m ps xb xn xd z0 z1 z2 z3 z4 z5) (jG n0 i j n ts m ps xb xn xd z0 z1 z2 z3 z4 z5) e T H:=
 pF ((aK _).add lp.cG) aO mixed TK h
theorem YZ (i j:Nat) (h:i+j≤4000):IntKind.i64.wrap ((IntKind.u64.wrap ((i:Int)+(j:Int))).fdiv 2)=(((i+j) / 2:Nat):Int):=by
 have e1:IntKind.u64.wrap ((i:Int)+(j:Int))=((i+j:Nat):Int):=by
  unfold IntKind.wrap
  simp [IntKind.signed,IntKind.bits]
  omega
 rw [e1,show ((i+j:Nat):Int).fdiv 2=(((i+j) / 2:Nat):Int) by rw [Int.fdiv_eq_ediv_of_nonneg _ (by decide)];omega]
 unfold IntKind.wrap
 simp [IntKind.signed,IntKind.bits]
 omega
theorem qF {a b:Rat} :0≤ad.cq a b↔¬ a < b:=by
 show 0≤fL a b↔_
 unfold fL
 split
 ·rename_i h
  exact ⟨fun G=>by omega,fun G=>absurd h G⟩
 ·rename_i h
  exact ⟨fun _=>h,fun _=>by split <;> omega⟩
def bF (ts:List Value) (x:Rat):Nat→Nat
 | 0=>0
 | n+1=>if bF ts x n=n then (if qt ts n < x then n+1 else n) else bF ts x n
theorem rU (ts:List Value) (x:Rat) (n:Nat):bF ts x n≤n∧(∀ k,k < bF ts x n→qt ts k < x)∧(bF ts x n < n→¬ qt ts (bF ts x n) < x):=by
 induction n with
 | zero=>exact ⟨Nat.le_refl _,fun k I=>absurd I (Nat.not_lt_zero k),fun h=>absurd h (Nat.lt_irrefl 0)⟩
 | succ n U=>
  obtain ⟨Z,G,M⟩:=U
  unfold bF
  split
  ·rename_i ab
   split
   ·rename_i J
    refine ⟨Nat.le_refl _,fun k I=> ?_,fun h=>by omega⟩
    by_cases O:k=n
    ·subst O;exact J
    ·exact G k (by omega)
   ·rename_i J
    exact ⟨by omega,fun k I=>G k (by omega),fun _=>J⟩
  ·exact ⟨by omega,G,fun h=>M (by omega)⟩
theorem rV {ts:List Value} {x:Rat} {n s:Nat} (M:s≤n) (I:∀ k,k < s→qt ts k < x) (J:s < n→¬ qt ts s < x):s=bF ts x n:=by
 obtain ⟨g1,g2,G⟩:=rU ts x n
 rcases Nat.lt_trichotomy s (bF ts x n) with h | h | h
 ·exact absurd (g2 s h) (J (by omega))
 ·exact h
 ·exact absurd (I _ h) (G (by omega))
structure fm (n:Nat) (ts:List Value):Prop where
 lim:n≤1000
 ok:∀ j,j < n→dc ts j=true
 up:∀ j,j+1 < n→qt ts j < qt ts (j+1)
theorem fm.mono {n:Nat} {ts:List Value} (h:fm n ts) {a:Nat} (d:Nat):a+d < n→qt ts a≤qt ts (a+d):=by
 induction d with
 | zero=>intro _;exact Rat.le_refl
 | succ d G=>
  intro hb
  exact Rat.le_trans (G (by omega)) (Rat.le_of_lt (h.up (a+d) (by omega)))
theorem fm.le {n:Nat} {ts:List Value} (h:fm n ts) {a b:Nat} (G:a≤b) (hb:b < n):qt ts a≤qt ts b:=by
 obtain ⟨d,rfl⟩:=Nat.exists_eq_add_of_le G
 exact h.mono d hb
section
variable {n : Nat} {ts ps : List Value} {xb : Bool} {xn xd : BA} {z0 : Bool} {z1 z2 : BA} {z3 : Bool} {z4 z5 : BA}
theorem abW (h:fm n ts) (b2:cH xn xd=true) (d:Nat):∀ i j:Nat,i≤j→j≤n→j - i≤d→(∀ k,k < i→qt ts k < ad.qv xb xn xd)→(∀ k,j≤k→k < n→¬ qt ts k < ad.qv xb xn xd)→
  bN Tryz.prog 3 (lb 98 gw) (kr n i j n ts n ps xb xn xd z0 z1 z2 z3 z4 z5) (jG n i j n ts n ps xb xn xd z0 z1 z2 z3 z4 z5) (.exit 0) (kr n (bF ts (ad.qv xb xn xd) n:Nat) (bF ts (ad.qv xb xn xd) n:Nat) n ts n ps xb xn xd z0 z1 z2 z3 z4 z5) (jG n (bF ts (ad.qv xb xn xd) n:Nat) (bF ts (ad.qv xb xn xd) n:Nat) n ts n ps xb xn xd z0 z1 z2 z3 z4 z5):=by
 induction d with
 | zero=>
  intro i j Z J a7 I M
  have:i=j:=by omega
  subst this
  have b3:=rV (n:=n) J I (fun b1=>M i (Nat.le_refl _) b1)
  rw [← b3]
  refine .last (E5 ?_) (by intro h;cases h)
  rw [NI,dF (show ¬ ((i:Nat):Int) < (i:Int) by omega)]
  rfl
 | succ d U=>
  intro i j Z J a7 I M
  by_cases b4:i=j
  ·exact U i j Z J (by omega) I M
  ·have b5:=h.lim
   obtain ⟨a1,a6⟩:=cg (h.ok ((i+j) / 2) (by omega))
   have G:=NI ad n i j n ts n ps xb xn xd z0 z1 z2 z3 z4 z5
   rw [YZ i j (by omega)] at G
   simp only [Int.toNat_natCast] at G
   rw [dT (show (i:Int) < (j:Int) by omega),aJ (z:=(i:Int)+(j:Int)) (by omega),dT (show (0:Int)≤(((i+j) / 2:Nat):Int) by omega),dT (show (((i+j) / 2:Nat):Int) < (n:Int) by omega),a1,cy a6,cy b2] at G
   by_cases ab:qt ts ((i+j) / 2) < ad.qv xb xn xd
   ·have O:¬ 0≤ad.cq (ad.qv (ar (ts.getD ((i+j) / 2*3+0) undef)) (ag (ts.getD ((i+j) / 2*3+1) undef)) (ag (ts.getD ((i+j) / 2*3+2) undef))) (ad.qv xb xn xd):=fun bx=>qF.1 bx ab
    rw [dF O,aJ (z:=(((i+j) / 2:Nat):Int)+1) (by omega)] at G
    refine .more (E5 G) (U ((i+j) / 2+1) j (by omega) J (by omega) (fun k aE=> ?_) M)
    by_cases bD:k < i
    ·exact I k bD
    ·have:=h.le (show k≤(i+j) / 2 by omega) (by omega)
     grind
   ·have O:0≤ad.cq (ad.qv (ar (ts.getD ((i+j) / 2*3+0) undef)) (ag (ts.getD ((i+j) / 2*3+1) undef)) (ag (ts.getD ((i+j) / 2*3+2) undef))) (ad.qv xb xn xd):=qF.2 ab
    rw [dT O] at G
    refine .more (E5 G) (U i ((i+j) / 2) (by omega) (by omega) (by omega) I (fun k aE b0=> ?_))
    have:=h.le aE b0
    grind
end
def vc (n0 i j:Int) (n:Nat) (ts:List Value) (m:Nat) (ps:List Value) (xb:Bool) (xn xd:BA) (z0:Bool) (z1 z2:BA) (z3:Bool) (z4 z5:BA):Prop:=n0=(n:Int)∧n=m∧i=0∧j=(n:Int)∧fm n ts∧cH xn xd=true
def DN (n0 i j:Int) (n:Nat) (ts:List Value) (m:Nat) (ps:List Value) (xb:Bool) (xn xd:BA) (z0:Bool) (z1 z2:BA) (z3:Bool) (z4 z5:BA) (ρ:Int×Int):Prop:=ρ.1=(bF ts (ad.qv xb xn xd) n:Nat)
theorem YM (n0 i j:Int) (n:Nat) (ts:List Value) (m:Nat) (ps:List Value) (xb:Bool) (xn xd:BA) (z0:Bool) (z1 z2:BA) (z3:Bool) (z4 z5:BA) (h:vc n0 i j n ts m ps xb xn xd z0 z1 z2 z3 z4 z5):∃ ρ:Int×Int,bN Tryz.prog 3 (lb 98 gw) (kr n0 i j n ts m ps xb xn xd z0 z1 z2 z3 z4 z5) (jG n0 i j n ts m ps xb xn xd z0 z1 z2 z3 z4 z5) (.exit 0) (kr n0 ρ.1 ρ.2 n ts m ps xb xn xd z0 z1 z2 z3 z4 z5) (jG n0 ρ.1 ρ.2 n ts m ps xb xn xd z0 z1 z2 z3 z4 z5)∧DN n0 i j n ts m ps xb xn xd z0 z1 z2 z3 z4 z5 ρ:=by
 obtain ⟨rfl,rfl,rfl,rfl,J,I⟩:=h
 exact ⟨(_,_),abW J I n 0 n (Nat.zero_le _) (Nat.le_refl _) (by omega) (fun k G=>by cases G) (fun k M O=>by omega),rfl⟩
def Gu (M:Int→Int→Int→Nat→List Value→Nat→List Value→Bool→ByteArray→ByteArray→Bool→ByteArray→ByteArray→Bool→ByteArray→ByteArray→Bool) (J:Int→Int→Int→Nat→List Value→Nat→List Value→Bool→ByteArray→ByteArray→Bool→ByteArray→ByteArray→Bool→ByteArray→ByteArray→Int×Int) (T:List AV) (H:Hp):Option (Bool×Ex×List AV×Hp):=
 match al T 0,al T 1,al T 5,al T 6,H with
 | .val (.int .i64 n0), .clo (.func 99) [] [.ptr 0 0,.ptr 1 0], .val (.int .i64 i), .val (.int .i64 j), [.row (.cells [.lst false 27 n I, .lst false 35 m G]) 25 .live, .row (.cells [.val (.bool xb), .val (.string xn), .val (.string xd)]) 27 .live, .row (.cells [.val (.bool z0), .val (.string z1), .val (.string z2), .val (.bool z3), .val (.string z4), .val (.string z5)]) 35 .live]=>bif T.length==26 then some (aw 3 n I&&aw 6 m G&&M n0 i j n (ai 3 n I) m (ai 6 m G) xb xn xd z0 z1 z2 z3 z4 z5, .exit 0,kr n0 ((J n0 i j n (ai 3 n I) m (ai 6 m G) xb xn xd z0 z1 z2 z3 z4 z5).1) ((J n0 i j n (ai 3 n I) m (ai 6 m G) xb xn xd z0 z1 z2 z3 z4 z5).2) n (ai 3 n I) m (ai 6 m G) xb xn xd z0 z1 z2 z3 z4 z5,jG n0 ((J n0 i j n (ai 3 n I) m (ai 6 m G) xb xn xd z0 z1 z2 z3 z4 z5).1) ((J n0 i j n (ai 3 n I) m (ai 6 m G) xb xn xd z0 z1 z2 z3 z4 z5).2) n (ai 3 n I) m (ai 6 m G) xb xn xd z0 z1 z2 z3 z4 z5) else none
 | _,_,_,_,_=>none
abbrev Ip:Type:=Int→Int→Int→Nat→List Value→Nat→List Value→Bool→ByteArray→ByteArray→Bool→ByteArray→ByteArray→Bool→ByteArray→ByteArray→Bool
abbrev HP:Type:=Int→Int→Int→Nat→List Value→Nat→List Value→Bool→ByteArray→ByteArray→Bool→ByteArray→ByteArray→Bool→ByteArray→ByteArray→Int×Int
def wB (G:Ip) (I:HP) (L:aD):aD:=bu 3 98 gw [0,1,5,6] (Gu G I) L
def lK (n0 i j:Int) (n:Nat) (ts:List Value) (m:Nat) (ps:List Value) (xb:Bool) (xn xd:ByteArray) (z0:Bool) (z1 z2:ByteArray) (z3:Bool) (z4 z5:ByteArray):Int×Int:=Classical.epsilon fun ρ=>bN Tryz.prog 3 (lb 98 gw) (kr n0 i j n ts m ps xb xn xd z0 z1 z2 z3 z4 z5) (jG n0 i j n ts m ps xb xn xd z0 z1 z2 z3 z4 z5) (.exit 0) (kr n0 (ρ.1) (ρ.2) n ts m ps xb xn xd z0 z1 z2 z3 z4 z5) (jG n0 (ρ.1) (ρ.2) n ts m ps xb xn xd z0 z1 z2 z3 z4 z5)∧DN n0 i j n ts m ps xb xn xd z0 z1 z2 z3 z4 z5 ρ
theorem MX (n0 i j:Int) (n:Nat) (ts:List Value) (m:Nat) (ps:List Value) (xb:Bool) (xn xd:ByteArray) (z0:Bool) (z1 z2:ByteArray) (z3:Bool) (z4 z5:ByteArray) (h:vc n0 i j n ts m ps xb xn xd z0 z1 z2 z3 z4 z5):bN Tryz.prog 3 (lb 98 gw) (kr n0 i j n ts m ps xb xn xd z0 z1 z2 z3 z4 z5) (jG n0 i j n ts m ps xb xn xd z0 z1 z2 z3 z4 z5) (.exit 0) (kr n0 ((lK n0 i j n ts m ps xb xn xd z0 z1 z2 z3 z4 z5).1) ((lK n0 i j n ts m ps xb xn xd z0 z1 z2 z3 z4 z5).2) n ts m ps xb xn xd z0 z1 z2 z3 z4 z5) (jG n0 ((lK n0 i j n ts m ps xb xn xd z0 z1 z2 z3 z4 z5).1) ((lK n0 i j n ts m ps xb xn xd z0 z1 z2 z3 z4 z5).2) n ts m ps xb xn xd z0 z1 z2 z3 z4 z5)∧DN n0 i j n ts m ps xb xn xd z0 z1 z2 z3 z4 z5 (lK n0 i j n ts m ps xb xn xd z0 z1 z2 z3 z4 z5):=Classical.epsilon_spec (YM n0 i j n ts m ps xb xn xd z0 z1 z2 z3 z4 z5 h)
def tk (n0 i j:Int) (n:Nat) (ts:List Value) (m:Nat) (ps:List Value) (xb:Bool) (xn xd:ByteArray) (z0:Bool) (z1 z2:ByteArray) (z3:Bool) (z4 z5:ByteArray):Bool:= @decide (vc n0 i j n ts m ps xb xn xd z0 z1 z2 z3 z4 z5) (Classical.propDecidable _)
theorem UC (n0 i j:Int) (n:Nat) (ts:List Value) (m:Nat) (ps:List Value) (xb:Bool) (xn xd:ByteArray) (z0:Bool) (z1 z2:ByteArray) (z3:Bool) (z4 z5:ByteArray) (h:vc n0 i j n ts m ps xb xn xd z0 z1 z2 z3 z4 z5):tk n0 i j n ts m ps xb xn xd z0 z1 z2 z3 z4 z5=true:= @decide_eq_true _ (Classical.propDecidable _) h
theorem adM (T:List AV) (H:Hp) (e:Ex) (J:List AV) (I:Hp) (h:Gu tk lK T H=some (true,e,J,I)):V.Ends Tryz.prog false 3 0 (.loop (lb 98 gw)) T H e J I:=by
 unfold Gu at h
 split at h
 ·rename_i n0 i j n Z m U xb xn xd z0 z1 z2 z3 z4 z5 ab aE a1 a6
  rw [Bool.cond_eq_ite] at h
  split at h
  ·rename_i M
   rw [beq_iff_eq] at M
   simp only [Option.some.injEq,Prod.mk.injEq,Bool.and_eq_true,decide_eq_true_eq] at h
   obtain ⟨⟨⟨k1,bD⟩,b0⟩,rfl,rfl,rfl⟩:=h
   have b1:= @of_decide_eq_true _ (Classical.propDecidable _) b0
   refine Ends.pre (Ends.iM (MX n0 i j n (ai 3 n Z) m (ai 6 m U) xb xn xd z0 z1 z2 z3 z4 z5 b1).1.ends (bL.cons ⟨⟨rfl,fun _ _ _ _ _ a7=>mV (by kernel_rfl) (by kernel_rfl) k1 bD a7⟩,rfl,rfl⟩ (bL.cons (gC.refl _) (bL.cons (gC.refl _) bL.nil)))) (fun α B w D b2 bx=>bw M (fun p O y G=> ?_) bx)
   simp only [List.mem_cons,List.not_mem_nil,or_false] at O
   rcases O with rfl | rfl | rfl | rfl
   ·rw [ab] at G;exact G
   ·rw [aE] at G;exact G
   ·rw [a1] at G;exact G
   ·rw [a6] at G;exact G
  ·cases h
 ·cases h
theorem QI {L:aD} (h:aC Tryz.prog L):aC Tryz.prog (wB tk lK L):=h.bC RW adM
end
end Go.Proofs.YtamcpiicmfielaaGreat.L
namespace Go.Proofs.YtamcpiicmfielaaGreat.L
open Go Go.V Go.RowKit Go.Proofs.YtamcpiicmfielaaGreat.Sp
open Go.Proofs (Tryz.prog)
noncomputable section
structure Vg where
 dd:BA→BA→Bool
 gG:Rat→Rat→Rat→Rat
 ui:Nat→List Value→List Value→Rat→Rat
 uj:Nat→List Value→List Value→Rat→Rat
 pk:Nat→List Value→Nat→List Value→BA→BA→Bool
def p5 (f:Bool→BA→BA→Bool→BA→BA→Bool→BA→BA→Bool→BA→BA→Bool→BA→BA→Option (Bool×AV)):TF:=fun args=>match args with
 | [.agg [.val (.bool b), .val (.string n), .val (.string d), .val (.bool c), .val (.string m), .val (.string e)], .agg [.val (.bool G), .val (.string n2), .val (.string J), .val (.bool c2), .val (.string m2), .val (.string O)], .agg [.val (.bool I), .val (.string U), .val (.string M)]]=>f b n d c m e G n2 J c2 m2 O I U M
 | _=>none
def FG (K:Hg) (V:Vg) (G:Qg):TF:=p5 fun b n d c m e Z n2 O c2 m2 U M J I=>some (K.ok n d&&K.ok m e&&K.ok n2 O&&K.ok m2 U&&V.dd J I,G.pair (V.gG (G.qv b n d) (G.qv Z n2 O) (G.qv M J I)) (V.gG (G.qv c m e) (G.qv c2 m2 U) (G.qv M J I)))
def kG (a b t:Rat):Rat:=a+(b - a)*t
def bG (n:Nat) (ts:List Value) (c:Nat→Rat) (x:Rat):Rat:=
 if bF ts x n=0 then c 0 else if bF ts x n=n then c (n - 1) else kG (c (bF ts x n - 1)) (c (bF ts x n)) ((x - qt ts (bF ts x n - 1)) / (qt ts (bF ts x n) - qt ts (bF ts x n - 1)))
structure oz (n:Nat) (ts:List Value) (m:Nat) (ps:List Value):Prop where
 eq:n=m
 pos:0 < n
 ts:fm n ts
 lN:∀ j,j < n→c8 ps j=true
 can:∀ j,j < n→jK ps j=0
def rG (n:Nat) (ts:List Value) (m:Nat) (ps:List Value) (xn xd:BA):Bool:= @decide (oz n ts m ps) (Classical.propDecidable _)&&cH xn xd
def dp:Vg where
 dd n d:=decide (n.size≤100000)&&decide (d.size≤100000)
 gG:=kG
 ui n ts ps x:=bG n ts (px ps) x
 uj n ts ps x:=bG n ts (py ps) x
 pk:=rG
theorem Db {n d:BA} (h:dp.dd n d=true):n.size≤100000∧d.size≤100000:=by
 have G:(decide (n.size≤100000)&&decide (d.size≤100000))=true:=h
 rwa [Bool.and_eq_true,decide_eq_true_eq,decide_eq_true_eq] at G
theorem rm {b:Bool} {n d:BA} (h:dp.dd n d=true):bk (ad.qv b n d)≤100000:=by
 have:=vK b n d
 have:=Db h
 omega
theorem rl {n d:BA} (h:dp.dd n d=true):ad.ok n d=true:=DS (by have:=Db h;omega) (by have:=Db h;omega)
theorem wL (a b t:Rat):dp.gG a b t=a+(b - a)*t:=rfl
theorem V6:Entry Tryz.prog 32 (FG bd dp ad):=by
 refine aZ (E:= ⟨wh ad,az,aq⟩) (u:=10) (d:=10) GX aO mixed (by kernel_rfl) (fun args r h=> ?_)
 unfold FG p5 at h
 split at h
 ·rename_i b n d c m e G n2 J c2 m2 O I a7 M
  simp only [Option.some.injEq,Prod.mk.injEq,Bool.and_eq_true] at h
  obtain ⟨⟨⟨⟨⟨U,Z⟩,ab⟩,aE⟩,a1⟩,rfl⟩:=h
  have a6:=Pv ad b c G c2 I n d m e n2 J m2 O a7 M
  have o1:=mz U
  have o2:=mz Z
  have o3:=mz ab
  have o4:=mz aE
  have b2:=rl a1
  have b3:=nP (b:=b) U
  have b4:=nP (b:=c) Z
  have b5:=nP (b:=G) ab
  have b6:=nP (b:=c2) aE
  have b7:=rm (b:=I) a1
  rw [wL,wL]
  generalize ad.qv b n d=x at*
  generalize ad.qv c m e=y at*
  generalize ad.qv G n2 J=u at*
  generalize ad.qv c2 m2 O=v at*
  generalize ad.qv I a7 M=t at*
  have z1:=lS u x
  have z2:=lS v y
  have z3:=r5 (u - x) t
  have z4:=r5 (v - y) t
  have bx:=cM (q:=u - x) (by omega)
  have bD:=cM (q:=v - y) (by omega)
  have b0:=cM (q:=(u - x)*t) (by omega)
  have b1:=cM (q:=(v - y)*t) (by omega)
  simp only [dN,o1,o2,o3,o4,b2,bx,bD,b0,b1,Bool.and_self,cond_true] at a6
  exact a6
 ·cases h
def we (K:Hg) (V:Vg) (G:Qg):FuncId→TF:=au 31 (cG (r8 G)) (au 42 (cG (zB G)) (au 32 (oO (FG K V G)) aM))
theorem Z1 (K:Hg) (V:Vg) (I:Qg) (c0:Ip) (c3:HP) (n:Nat) (ts:List Value) (m:Nat) (ps:List Value) (xb:Bool) (xn xd:BA):letI M:=(ai 3 n (af 3 ts));letI J:=(ai 6 m (af 6 ps));letI G:=(c3 (↑n:Int) (0:Int) (↑n:Int) n M m J xb xn xd false (ByteArray.mk #[]) (ByteArray.mk #[]) false (ByteArray.mk #[]) (ByteArray.mk #[]));letI bD:=(M.getD ((G.fst - 1).toNat*3+0) undef);letI Z:=(M.getD ((G.fst - 1).toNat*3+1) undef);letI U:=(M.getD ((G.fst - 1).toNat*3+2) undef);letI aE:=(I.qv xb xn xd - I.qv (ar bD) (ag Z) (ag U));letI b2:=(M.getD (G.fst.toNat*3+1) undef);letI b3:=(M.getD (G.fst.toNat*3+2) undef);letI ab:=(I.qv (ar (M.getD (G.fst.toNat*3+0) undef)) (ag b2) (ag b3) - I.qv (ar bD) (ag Z) (ag U));letI O:=(I.qv (I.qn aE) (I.qs aE) (I.qd aE) / I.qv (I.qn ab) (I.qs ab) (I.qd ab));letI b0:=(J.getD ((G.fst - 1).toNat*6+0) undef);letI a1:=(J.getD ((G.fst - 1).toNat*6+1) undef);letI a6:=(J.getD ((G.fst - 1).toNat*6+2) undef);letI b4:=(J.getD (G.fst.toNat*6+1) undef);letI b5:=(J.getD (G.fst.toNat*6+2) undef);letI ch:=(V.gG (I.qv (ar b0) (ag a1) (ag a6)) (I.qv (ar (J.getD (G.fst.toNat*6+0) undef)) (ag b4) (ag b5)) (I.qv (I.qn O) (I.qs O) (I.qd O)));letI b1:=(J.getD ((G.fst - 1).toNat*6+3) undef);letI a7:=(J.getD ((G.fst - 1).toNat*6+4) undef);letI bx:=(J.getD ((G.fst - 1).toNat*6+5) undef);letI b6:=(J.getD (G.fst.toNat*6+4) undef);letI b7:=(J.getD (G.fst.toNat*6+5) undef);letI ct:=(V.gG (I.qv (ar b1) (ag a7) (ag bx)) (I.qv (ar (J.getD (G.fst.toNat*6+3) undef)) (ag b6) (ag b7)) (I.qv (I.qn O) (I.qs O) (I.qd O)));
  (aG Tryz.prog ⟨we K V I,sB,wB c0 c3 aq⟩ 10 10 50 [bO n ts m ps,w3 xb xn xd]=(bif aw 3 n (af 3 ts)&&aw 6 m (af 6 ps)&&c0 (↑n:Int) (0:Int) (↑n:Int) n M m J xb xn xd false (ByteArray.mk #[]) (ByteArray.mk #[]) false (ByteArray.mk #[]) (ByteArray.mk #[]) then (bif decide (G.fst=0) then (bif decide (0 < (↑m:Int)) then (bif [(fun q=>af 6 J (Int.toNat (0:Int)) (0+q)) (nat_lit 0),(fun q=>af 6 J (Int.toNat (0:Int)) (0+q)) (nat_lit 1),(fun q=>af 6 J (Int.toNat (0:Int)) (0+q)) (nat_lit 2),(fun q=>af 6 J (Int.toNat (0:Int)) (0+q)) (nat_lit 3),(fun q=>af 6 J (Int.toNat (0:Int)) (0+q)) (nat_lit 4),(fun q=>af 6 J (Int.toNat (0:Int)) (0+q)) (nat_lit 5)].all aS then some (.agg [(.val (J.getD 0 undef)),(.val (J.getD 1 undef)),(.val (J.getD 2 undef)),(.val (J.getD 3 undef)),(.val (J.getD 4 undef)),(.val (J.getD 5 undef))]) else none) else none) else (bif decide (G.fst=(↑n:Int)) then (bif ah IntKind.i64 (G.fst - 1) then (bif decide (0≤G.fst - 1)&&decide (G.fst - 1 < (↑m:Int)) then (bif [(fun q=>af 6 J (G.fst - 1).toNat (0+q)) (nat_lit 0),(fun q=>af 6 J (G.fst - 1).toNat (0+q)) (nat_lit 1),(fun q=>af 6 J (G.fst - 1).toNat (0+q)) (nat_lit 2),(fun q=>af 6 J (G.fst - 1).toNat (0+q)) (nat_lit 3),(fun q=>af 6 J (G.fst - 1).toNat (0+q)) (nat_lit 4),(fun q=>af 6 J (G.fst - 1).toNat (0+q)) (nat_lit 5)].all aS then some (.agg [(.val b0),(.val a1),(.val a6),(.val b1),(.val a7),(.val bx)]) else none) else none) else none) else (bif ah IntKind.i64 (G.fst - 1) then (bif decide (0≤G.fst - 1)&&decide (G.fst - 1 < (↑n:Int)) then (bif aL bD Z U&&(I.ok xn xd&&I.ok (ag Z) (ag U)) then (bif decide (0≤G.fst)&&decide (G.fst < (↑n:Int)) then (bif ah IntKind.i64 (G.fst - 1) then (bif decide (0≤G.fst - 1)&&decide (G.fst - 1 < (↑n:Int)) then (bif aL (M.getD (G.fst.toNat*3+0) undef) b2 b3&&aL bD Z U&&(I.ok (ag b2) (ag b3)&&I.ok (ag Z) (ag U)) then (bif I.ok (I.qs aE) (I.qd aE)&&I.ok (I.qs ab) (I.qd ab) then (bif ah IntKind.i64 (G.fst - 1) then (bif decide (0≤G.fst - 1)&&decide (G.fst - 1 < (↑m:Int)) then (bif decide (0≤G.fst)&&decide (G.fst < (↑m:Int)) then (bif aL b0 a1 a6&&aL b1 a7 bx&&(aL (J.getD (G.fst.toNat*6+0) undef) b4 b5&&aL (J.getD (G.fst.toNat*6+3) undef) b6 b7)&&(K.ok (ag a1) (ag a6)&&K.ok (ag a7) (ag bx)&&K.ok (ag b4) (ag b5)&&K.ok (ag b6) (ag b7)&&V.dd (I.qs O) (I.qd O)) then some (.agg [(.val (.bool (I.qn ch))),(.val (.string (I.qs ch))),(.val (.string (I.qd ch))),(.val (.bool (I.qn ct))),(.val (.string (I.qs ct))),(.val (.string (I.qd ct)))]) else none) else none) else none) else none) else none) else none) else none) else none) else none) else none) else none) else none))) else none)):=by kernel_rfl
theorem SH {b:Bool} {n d:BA} (h:ad.ck b n d=0):b=ad.qn (ad.qv b n d)∧n=ad.qs (ad.qv b n d)∧d=ad.qd (ad.qv b n d):=by
 have I:(bif (b==vk (iN b n d))&&aF n (yP (iN b n d))&&aF d (kT (iN b n d)) then (0:Int) else 1)=0:=h
 cases G:(b==vk (iN b n d))&&aF n (yP (iN b n d))&&aF d (kT (iN b n d)) with
 | false=>rw [G] at I;cases I
 | true=>
  simp only [Bool.and_eq_true,beq_iff_eq,r4,decide_eq_true_eq] at G
  exact ⟨G.1.1,G.1.2,G.2⟩
theorem BK {x y z:Value} (h:aL x y z=true) (O:ad.ck (ar x) (ag y) (ag z)=0):x= .bool (ad.qn (ad.qv (ar x) (ag y) (ag z)))∧y= .string (ad.qs (ad.qv (ar x) (ag y) (ag z)))∧z= .string (ad.qd (ad.qv (ar x) (ag y) (ag z))):=by
 obtain ⟨I,J,M⟩:=fO h
 obtain ⟨c1,c2,G⟩:=SH O
 exact ⟨by rw [← c1];exact I,by rw [← c2];exact J,by rw [← G];exact M⟩
theorem Xh {ps:List Value} {j:Nat} (h:jK ps j=0):ad.ck (ar (ps.getD (j*6+0) undef)) (ag (ps.getD (j*6+1) undef)) (ag (ps.getD (j*6+2) undef))=0∧ad.ck (ar (ps.getD (j*6+3) undef)) (ag (ps.getD (j*6+4) undef)) (ag (ps.getD (j*6+5) undef))=0:=by
 unfold jK at h
 rw [CP] at h
 cases G:decide (ad.ck (ar (ps.getD (j*6+0) undef)) (ag (ps.getD (j*6+1) undef)) (ag (ps.getD (j*6+2) undef))=0)&&decide (ad.ck (ar (ps.getD (j*6+3) undef)) (ag (ps.getD (j*6+4) undef)) (ag (ps.getD (j*6+5) undef))=0) with
 | false=>rw [G] at h;cases h
 | true=>rwa [Bool.and_eq_true,decide_eq_true_eq,decide_eq_true_eq] at G
theorem Jj {ps:List Value} {j:Nat} (h:c8 ps j=true) (Z:jK ps j=0):AV.agg [.val (ps.getD (j*6+0) undef), .val (ps.getD (j*6+1) undef), .val (ps.getD (j*6+2) undef), .val (ps.getD (j*6+3) undef), .val (ps.getD (j*6+4) undef), .val (ps.getD (j*6+5) undef)]=ad.pair (px ps j) (py ps j):=by
 obtain ⟨⟨k1,ab⟩,_,_⟩:=mB h
 obtain ⟨c1,c2⟩:=Xh Z
 obtain ⟨G,I,J⟩:=BK k1 c1
 obtain ⟨M,O,U⟩:=BK ab c2
 unfold Qg.pair px py vi
 rw [← G,← I,← J,← M,← O,← U]
theorem Ma {ps:List Value} {j:Nat} (h:c8 ps j=true): [af 6 ps j 0,af 6 ps j 1,af 6 ps j 2,af 6 ps j 3,af 6 ps j 4,af 6 ps j 5].all aS=true:=by
 obtain ⟨⟨k1,Z⟩,_,_⟩:=mB h
 obtain ⟨G,I,J⟩:=fO k1
 obtain ⟨M,O,U⟩:=fO Z
 unfold af
 rw [G,I,J,M,O,U];rfl
theorem rj {ts:List Value} {j:Nat} (h:dc ts j=true):bk (qt ts j)≤1000:=by
 obtain ⟨_,G⟩:=cg h
 have:=rp G
 have:=vK (ar (ts.getD (j*3+0) undef)) (ag (ts.getD (j*3+1) undef)) (ag (ts.getD (j*3+2) undef))
 unfold qt
 omega
theorem mC {q:Rat} (h:bk q≤100000):dp.dd (ad.qs q) (ad.qd q)=true:=by
 unfold bk at h
 have G:=Eu q
 have I:=Et q
 show (decide _&&decide _)=true
 rw [decide_eq_true (show (ad.qs q).size≤100000 by omega),decide_eq_true (show (ad.qd q).size≤100000 by omega)];rfl
theorem ZW {n:Nat} {ts:List Value} {m:Nat} {ps:List Value} {xn xd:BA} (h:rG n ts m ps xn xd=true):oz n ts m ps∧cH xn xd=true:=by
 unfold rG at h
 rw [Bool.and_eq_true] at h
 exact ⟨@of_decide_eq_true _ (Classical.propDecidable _) h.1,h.2⟩
theorem mU (ts:List Value) (j:Nat):ad.qv (ar (ts.getD (j*3+0) undef)) (ag (ts.getD (j*3+1) undef)) (ag (ts.getD (j*3+2) undef))=qt ts j:=rfl
theorem aad (ps:List Value) (j:Nat):ad.qv (ar (ps.getD (j*6+0) undef)) (ag (ps.getD (j*6+1) undef)) (ag (ps.getD (j*6+2) undef))=px ps j:=rfl
theorem aae (ps:List Value) (j:Nat):ad.qv (ar (ps.getD (j*6+3) undef)) (ag (ps.getD (j*6+4) undef)) (ag (ps.getD (j*6+5) undef))=py ps j:=rfl
def Fy (V:Vg) (G:Qg):TF:=fun args=>match args with
 | [.agg [.lst _ 27 n f, .lst _ 35 m g], .agg [.val (.bool xb), .val (.string xn), .val (.string xd)]]=>some (aw 3 n f&&aw 6 m g&&V.pk n (ai 3 n f) m (ai 6 m g) xn xd,G.pair (V.ui n (ai 3 n f) (ai 6 m g) (G.qv xb xn xd)) (V.uj n (ai 3 n f) (ai 6 m g) (G.qv xb xn xd)))
 | _=>none
theorem PK:bf Tryz.prog (we bd dp ad):=(((aK _).add V6.oO).add JZ.cG).add xF.cG
theorem Z2 (n:Nat) (ts:List Value) (m:Nat) (ps:List Value) (xb:Bool) (xn xd:BA) (l1:ts.length=n*3) (l2:ps.length=m*6) (b3:rG n ts m ps xn xd=true):
  aG Tryz.prog ⟨we bd dp ad,sB,wB tk lK aq⟩ 10 10 50 [bO n ts m ps,w3 xb xn xd]=some (ad.pair (bG n ts (px ps) (ad.qv xb xn xd)) (bG n ts (py ps) (ad.qv xb xn xd))):=by
 obtain ⟨G,O⟩:=ZW b3
 obtain rfl:=G.eq
 have ab:vc n 0 n n ts n ps xb xn xd false (ByteArray.mk #[]) (ByteArray.mk #[]) false (ByteArray.mk #[]) (ByteArray.mk #[]):= ⟨rfl,rfl,rfl,rfl,G.ts,O⟩
 have b4:=(MX _ _ _ _ _ _ _ _ _ _ _ _ _ _ _ _ ab).2
 have b5:(lK n 0 n n ts n ps xb xn xd false (ByteArray.mk #[]) (ByteArray.mk #[]) false (ByteArray.mk #[]) (ByteArray.mk #[])).fst=((bF ts (ad.qv xb xn xd) n:Nat):Int):=b4
 obtain ⟨g1,g2,b6⟩:=rU ts (ad.qv xb xn xd) n
 have Z:=G.pos
 have b7:=G.ts.lim
 rw [Z1,bj l1,bj l2,c9,c9,UC _ _ _ _ _ _ _ _ _ _ _ _ _ _ _ _ ab,b5]
 unfold bG
 have ch:bk (ad.qv xb xn xd)≤1000:=by
  have:=rp O
  have:=vK xb xn xd
  omega
 generalize bF ts (ad.qv xb xn xd) n=s at*
 cases s with
 | zero=>
  rw [dT (show ((0:Nat):Int)=0 from rfl),dT (show (0:Int) < (n:Int) by omega),if_pos rfl,if_pos rfl]
  have J:=Ma (G.lN 0 Z)
  have M:=Jj (G.lN 0 Z) (G.can 0 Z)
  simp only [Int.toNat_zero,Nat.zero_add,J,Bool.and_self,cond_true]
  exact congrArg some M
 | succ k=>
  have e1:((k+1:Nat):Int) - 1=(k:Int):=by omega
  rw [dF (show ¬ ((k+1:Nat):Int)=0 by omega),if_neg (show ¬ k+1=0 by omega),if_neg (show ¬ k+1=0 by omega)]
  have U:=G.lN k (by omega)
  have J:=Ma U
  have M:=Jj U (G.can k (by omega))
  by_cases I:k+1=n
  ·rw [if_pos I,if_pos I,dT (show ((k+1:Nat):Int)=(n:Int) by omega)]
   simp only [e1,Int.toNat_natCast,Nat.zero_add,J]
   rw [aJ (z:=(k:Int)) (by omega),dT (show (0:Int)≤(k:Int) by omega),dT (show (k:Int) < (n:Int) by omega),show n - 1=k by omega]
   exact congrArg some M
  ·obtain ⟨⟨a6,a7⟩,bx,bD⟩:=mB U
   obtain ⟨⟨c1,c2⟩,b0,b1⟩:=mB (G.lN (k+1) (by omega))
   obtain ⟨aE,a1⟩:=cg (G.ts.ok k (by omega))
   obtain ⟨d1,b2⟩:=cg (G.ts.ok (k+1) (by omega))
   have z1:=rj (G.ts.ok k (by omega))
   have z2:=rj (G.ts.ok (k+1) (by omega))
   rw [if_neg I,if_neg I,dF (show ¬ ((k+1:Nat):Int)=(n:Int) by omega)]
   simp only [e1,Int.toNat_natCast,mU,aad,aae,dN]
   have ct:=lS (ad.qv xb xn xd) (qt ts k)
   have c0:=lS (qt ts (k+1)) (qt ts k)
   have c3:=OZ (ad.qv xb xn xd - qt ts k) (qt ts (k+1) - qt ts k)
   rw [aJ (z:=(k:Int)) (by omega),dT (show (0:Int)≤(k:Int) by omega),dT (show (k:Int) < (n:Int) by omega),dT (show (0:Int)≤((k+1:Nat):Int) by omega),dT (show ((k+1:Nat):Int) < (n:Int) by omega),aE,cy a1,d1,cy b2,cy O,a6,a7,bx,bD,c1,c2,b0,b1,
    cM (q:=ad.qv xb xn xd - qt ts k) (by omega),cM (q:=qt ts (k+1) - qt ts k) (by omega),mC (q:=(ad.qv xb xn xd - qt ts k) / (qt ts (k+1) - qt ts k)) (by omega)]
   rfl
theorem VI:Entry Tryz.prog 50 (Fy dp ad):=by
 refine oL (by kernel_rfl) (fun args r h=> ?_)
 unfold Fy at h
 split at h
 ·rename_i fl n f M m g xb xn xd
  simp only [Option.some.injEq,Prod.mk.injEq,Bool.and_eq_true] at h
  obtain ⟨⟨⟨G,I⟩,J⟩,rfl⟩:=h
  exact ⟨⟨we bd dp ad,sB,wB tk lK aq⟩,10,10,_,_,PK,(QI aC.none).ok,Z2 n _ m _ xb xn xd (dC 3 n f) (dC 6 m g) J,cm.cons (oX G I) (cm.refl _),cI.refl _⟩
 ·cases h
end
end Go.Proofs.YtamcpiicmfielaaGreat.L
