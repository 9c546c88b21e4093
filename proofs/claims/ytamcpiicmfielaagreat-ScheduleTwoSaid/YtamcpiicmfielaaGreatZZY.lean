import Derived.Test.YtamcpiicmfielaaGreatZZX
import Derived.Test.YtamcpiicmfielaaGreatZHW
import Derived.Test.YtamcpiicmfielaaGreatZJB
import Derived.Test.YtamcpiicmfielaaGreatZHZ
set_option linter.unusedVariables false
set_option linter.unusedSimpArgs false
namespace Go.Proofs.YtamcpiicmfielaaGreat.L
open Go Go.V Go.RowKit Go.Proofs.YtamcpiicmfielaaGreat.Sp
open Go.Proofs (Tryz.prog)
noncomputable section
def tk (G:Qg):Env:= ⟨aw 48 (cZ (oU G)) aK,au,aq⟩
abbrev fg:List Bool:= [false,false,true,true]
def gL (k:Nat) (j:Int) (w1 w2 w3 z1 z2 z3:Value) (cs us:List Value) (x1 x2 x3:Value):List AV:=ar 45 [(0, .sl false 27 3 0 k),(3, .ptr 4 0),(5, .val (.int .i64 j))]
def fW (k:Nat) (j:Int) (w1 w2 w3 z1 z2 z3:Value) (cs us:List Value) (x1 x2 x3:Value):Hp:= [.row (.cells [.val w1,.val w2,.val w3]) 27 .live, .row (.cells [.val z1,.val z2,.val z3]) 27 .live, .row (.vals cs) 27 .live, .row (.vals us) 27 .live, .row (.cells [.val x1,.val x2,.val x3]) 27 .live]
theorem Tx:aH Tryz.prog 81 fg=some (.loop (lb 81 fg)):=by kernel_rfl
theorem Ve:aH Tryz.prog 81 (false :: fg)=some (lb 81 fg):=by kernel_rfl
theorem O3 (G:Qg) (k:Nat) (j:Int) (w1 w2 w3 z1 z2 z3:Value) (cs us:List Value) (x1 x2 x3:Value):letI I:=(us.getD (0+j.toNat*3+1+1) undef);letI J:=(us.getD (0+j.toNat*3+1) undef);
  (dN Tryz.prog (tk G) 4 81 [0,3,5] (lb 81 fg) (false :: fg) (gL k j w1 w2 w3 z1 z2 z3 cs us x1 x2 x3) (fW k j w1 w2 w3 z1 z2 z3 cs us x1 x2 x3)=(bif decide (j < (↑k:Int)) then (bif decide (0≤j)&&decide (j < (↑k:Int)) then (bif decide (0+j.toNat*3 < us.length) then (bif decide (0+j.toNat*3+1 < us.length) then (bif decide (0+j.toNat*3+1+1 < us.length) then (bif aY (us.getD (0+j.toNat*3) undef) J I&&aY x1 x2 x3&&(G.aV (ah J) (ah I)&&G.aV (ah x2) (ah x3)) then (bif decide (G.cq (G.qv (az (us.getD (0+j.toNat*3) undef)) (ah J) (ah I)) (G.qv (az x1) (ah x2) (ah x3)) < 0) then (bif ai IntKind.i64 (j+1) then some (.normal,ar 45 [(0,(.sl false 27 3 0 k)),(3,(.ptr 4 0)),(5,(.val (.int .i64 (j+1))))], [(.row (.cells [(.val (w1)),(.val (w2)),(.val (w3))]) 27 .live),(.row (.cells [(.val (z1)),(.val (z2)),(.val (z3))]) 27 .live),(.row (.vals cs) 27 .live),(.row (.vals us) 27 .live),(.row (.cells [(.val (x1)),(.val (x2)),(.val (x3))]) 27 .live)]) else none) else some ((.exit 0),ar 45 [(0,(.sl false 27 3 0 k)),(3,(.ptr 4 0)),(5,(.val (.int .i64 j)))], [(.row (.cells [(.val (w1)),(.val (w2)),(.val (w3))]) 27 .live),(.row (.cells [(.val (z1)),(.val (z2)),(.val (z3))]) 27 .live),(.row (.vals cs) 27 .live),(.row (.vals us) 27 .live),(.row (.cells [(.val (x1)),(.val (x2)),(.val (x3))]) 27 .live)])) else none) else none) else none) else none) else none) else some ((.exit 0),ar 45 [(0,(.sl false 27 3 0 k)),(3,(.ptr 4 0)),(5,(.val (.int .i64 j)))], [(.row (.cells [(.val (w1)),(.val (w2)),(.val (w3))]) 27 .live),(.row (.cells [(.val (z1)),(.val (z2)),(.val (z3))]) 27 .live),(.row (.vals cs) 27 .live),(.row (.vals us) 27 .live),(.row (.cells [(.val (x1)),(.val (x2)),(.val (x3))]) 27 .live)]))):=by kernel_rfl
theorem P4 {k:Nat} {j:Int} {w1 w2 w3 z1 z2 z3:Value} {cs us:List Value} {x1 x2 x3:Value} {e:Ex} {T:List AV} {H:Hp} (h:dN Tryz.prog (tk af) 4 81 [0,3,5] (lb 81 fg) (false :: fg) (gL k j w1 w2 w3 z1 z2 z3 cs us x1 x2 x3) (fW k j w1 w2 w3 z1 z2 z3 cs us x1 x2 x3)=some (e,T,H)):V.Ends Tryz.prog false 4 0 (lb 81 fg) (gL k j w1 w2 w3 z1 z2 z3 cs us x1 x2 x3) (fW k j w1 w2 w3 z1 z2 z3 cs us x1 x2 x3) e T H:=
 qp ((aJ _).add ru.cZ) aN mixed Ve h
def cX:List Rat→Rat→Nat
 | [],_=>0
 | y :: l,x=>if y < x then cX l x+1 else 0
theorem Et (x:Rat):∀ l:List Rat,cX l x≤l.length∧(∀ i,i < cX l x→l.getD i 0 < x)∧(cX l x < l.length→¬ l.getD (cX l x) 0 < x)
 | []=> ⟨Nat.le_refl _,fun i hi=>absurd hi (Nat.not_lt_zero i),fun h=>absurd h (Nat.lt_irrefl 0)⟩
 | y :: l=>by
  obtain ⟨I,J,M⟩:=Et x l
  unfold cX
  split
  ·rename_i G
   refine ⟨Nat.succ_le_succ I,fun i hi=> ?_,fun h=>M (Nat.lt_of_succ_lt_succ h)⟩
   cases i with
   | zero=>exact G
   | succ i=>exact J i (Nat.lt_of_succ_lt_succ hi)
  ·rename_i G
   exact ⟨Nat.zero_le _,fun i hi=>absurd hi (Nat.not_lt_zero i),fun _=>G⟩
structure BD (k:Nat) (us:List Value) (l:List Rat) (x1 x2 x3:Value):Prop where
 row:us=aL l
 len:l.length=k
 lim:k≤1000
 sz:∀ i,i < k→cK (l.getD i 0)≤1000
 xr:aY x1 x2 x3=true
 xo:c9 (ah x2) (ah x3)=true
section
variable {k : Nat} {w1 w2 w3 z1 z2 z3 : Value} {cs us : List Value} {x1 x2 x3 : Value} {l : List Rat}
theorem Mx (h:BD k us l x1 x2 x3) (j:Nat) (Z:j < k) {r:Option (Ex×List AV×Hp)} (G:dN Tryz.prog (tk af) 4 81 [0,3,5] (lb 81 fg) (false :: fg) (gL k j w1 w2 w3 z1 z2 z3 cs us x1 x2 x3) (fW k j w1 w2 w3 z1 z2 z3 cs us x1 x2 x3)=r):
  (l.getD j 0 < rv x1 x2 x3→r=some (.normal,gL k ((j+1:Nat):Int) w1 w2 w3 z1 z2 z3 cs us x1 x2 x3,fW k ((j+1:Nat):Int) w1 w2 w3 z1 z2 z3 cs us x1 x2 x3))∧
  (¬ l.getD j 0 < rv x1 x2 x3→r=some (.exit 0,gL k j w1 w2 w3 z1 z2 z3 cs us x1 x2 x3,fW k j w1 w2 w3 z1 z2 z3 cs us x1 x2 x3)):=by
 have a1:=h.lim
 have aE:=h.len
 have ab:us.length=k*3:=by rw [h.row,mM,h.len]
 have a6:=h.sz j Z
 obtain ⟨J,M,O⟩:=jH (n9 l) j (by omega)
 rw [il _ (by omega),← h.row] at J M O
 rw [O3] at G
 simp only [Int.toNat_natCast,Nat.zero_add,J,M,O,oy] at G
 rw [dT (show (j:Int) < (k:Int) by omega),dT (show (0:Int)≤(j:Int) by omega),dT (show j*3 < us.length by omega),dT (show j*3+1 < us.length by omega),dT (show j*3+1+1 < us.length by omega),aM (z:=(j:Int)+1) (by omega),h.xr,ff h.xo,
  show af.aV (ah (.string (af.qs (l.getD j 0)))) (ah (.string (af.qd (l.getD j 0))))=true from zj (by omega),show af.qv (az (.bool (af.qn (l.getD j 0)))) (ah (.string (af.qs (l.getD j 0)))) (ah (.string (af.qd (l.getD j 0))))=l.getD j 0 from fK _,show af.qv (az x1) (ah x2) (ah x3)=rv x1 x2 x3 from rfl] at G
 constructor
 ·intro I
  rw [dT (iF.2 I)] at G
  exact G.symm
 ·intro I
  rw [dF (fun U=>I (iF.1 U))] at G
  exact G.symm
theorem Zj (h:BD k us l x1 x2 x3) (r:Nat):∀ j:Nat,cX l (rv x1 x2 x3)=j+r→bT Tryz.prog 4 (lb 81 fg) (gL k j w1 w2 w3 z1 z2 z3 cs us x1 x2 x3) (fW k j w1 w2 w3 z1 z2 z3 cs us x1 x2 x3) (.exit 0) (gL k (cX l (rv x1 x2 x3):Nat) w1 w2 w3 z1 z2 z3 cs us x1 x2 x3) (fW k (cX l (rv x1 x2 x3):Nat) w1 w2 w3 z1 z2 z3 cs us x1 x2 x3):=by
 obtain ⟨p1,p2,p3⟩:=Et (rv x1 x2 x3) l
 have M:=h.len
 induction r with
 | zero=>
  intro j G
  have G:cX l (rv x1 x2 x3)=j:=by omega
  rw [G] at p1 p3 ⊢
  refine .last (P4 ?_) (by intro h;cases h)
  by_cases I:j < k
  ·exact (Mx h j I rfl).2 (p3 (by omega))
  ·rw [O3,dF (show ¬ (j:Int) < (k:Int) by omega)]
   rfl
 | succ r J=>
  intro j G
  exact .more (P4 ((Mx h j (by omega) rfl).1 (p2 j (by omega)))) (J (j+1) (by omega))
end
def vh (k:Nat) (j:Int) (w1 w2 w3 z1 z2 z3:Value) (cs us:List Value) (x1 x2 x3:Value):Prop:=j=0∧BD k us ((List.range k).map (qt us)) x1 x2 x3
def zx (k:Nat) (j:Int) (w1 w2 w3 z1 z2 z3:Value) (cs us:List Value) (x1 x2 x3:Value) (ρ:Int):Prop:=ρ=(cX ((List.range k).map (qt us)) (rv x1 x2 x3):Nat)
theorem aaC (k:Nat) (j:Int) (w1 w2 w3 z1 z2 z3:Value) (cs us:List Value) (x1 x2 x3:Value) (h:vh k j w1 w2 w3 z1 z2 z3 cs us x1 x2 x3):∃ ρ:Int,bT Tryz.prog 4 (lb 81 fg) (gL k j w1 w2 w3 z1 z2 z3 cs us x1 x2 x3) (fW k j w1 w2 w3 z1 z2 z3 cs us x1 x2 x3) (.exit 0) (gL k ρ w1 w2 w3 z1 z2 z3 cs us x1 x2 x3) (fW k ρ w1 w2 w3 z1 z2 z3 cs us x1 x2 x3)∧zx k j w1 w2 w3 z1 z2 z3 cs us x1 x2 x3 ρ:=by
 obtain ⟨rfl,h⟩:=h
 exact ⟨_,Zj h (cX ((List.range k).map (qt us)) (rv x1 x2 x3)) 0 (by omega),rfl⟩
def He (I:Nat→Int→Value→Value→Value→Value→Value→Value→List Value→List Value→Value→Value→Value→Bool) (G:Nat→Int→Value→Value→Value→Value→Value→Value→List Value→List Value→Value→Value→Value→Int) (T:List AV) (H:Hp):Option (Bool×Ex×List AV×Hp):=
 match al T 0,al T 3,al T 5,H with
 | .sl false 27 3 0 k, .ptr 4 0, .val (.int .i64 j), [.row (.cells [.val w1,.val w2,.val w3]) 27 .live, .row (.cells [.val z1,.val z2,.val z3]) 27 .live, .row (.vals cs) 27 .live, .row (.vals us) 27 .live, .row (.cells [.val x1,.val x2,.val x3]) 27 .live]=>bif T.length==45 then some (I k j w1 w2 w3 z1 z2 z3 cs us x1 x2 x3, .exit 0,gL k ((G k j w1 w2 w3 z1 z2 z3 cs us x1 x2 x3)) w1 w2 w3 z1 z2 z3 cs us x1 x2 x3,fW k ((G k j w1 w2 w3 z1 z2 z3 cs us x1 x2 x3)) w1 w2 w3 z1 z2 z3 cs us x1 x2 x3) else none
 | _,_,_,_=>none
abbrev JE:Type:=Nat→Int→Value→Value→Value→Value→Value→Value→List Value→List Value→Value→Value→Value→Bool
abbrev I5:Type:=Nat→Int→Value→Value→Value→Value→Value→Value→List Value→List Value→Value→Value→Value→Int
def Cc (G:JE) (I:I5) (L:aC):aC:=bp 4 81 fg [0,3,5] (He G I) L
def oK (k:Nat) (j:Int) (w1 w2 w3 z1 z2 z3:Value) (cs us:List Value) (x1 x2 x3:Value):Int:=Classical.epsilon fun ρ=>bT Tryz.prog 4 (lb 81 fg) (gL k j w1 w2 w3 z1 z2 z3 cs us x1 x2 x3) (fW k j w1 w2 w3 z1 z2 z3 cs us x1 x2 x3) (.exit 0) (gL k (ρ) w1 w2 w3 z1 z2 z3 cs us x1 x2 x3) (fW k (ρ) w1 w2 w3 z1 z2 z3 cs us x1 x2 x3)∧zx k j w1 w2 w3 z1 z2 z3 cs us x1 x2 x3 ρ
theorem Ob (k:Nat) (j:Int) (w1 w2 w3 z1 z2 z3:Value) (cs us:List Value) (x1 x2 x3:Value) (h:vh k j w1 w2 w3 z1 z2 z3 cs us x1 x2 x3):bT Tryz.prog 4 (lb 81 fg) (gL k j w1 w2 w3 z1 z2 z3 cs us x1 x2 x3) (fW k j w1 w2 w3 z1 z2 z3 cs us x1 x2 x3) (.exit 0) (gL k ((oK k j w1 w2 w3 z1 z2 z3 cs us x1 x2 x3)) w1 w2 w3 z1 z2 z3 cs us x1 x2 x3) (fW k ((oK k j w1 w2 w3 z1 z2 z3 cs us x1 x2 x3)) w1 w2 w3 z1 z2 z3 cs us x1 x2 x3)∧zx k j w1 w2 w3 z1 z2 z3 cs us x1 x2 x3 (oK k j w1 w2 w3 z1 z2 z3 cs us x1 x2 x3):=Classical.epsilon_spec (aaC k j w1 w2 w3 z1 z2 z3 cs us x1 x2 x3 h)
def tM (k:Nat) (j:Int) (w1 w2 w3 z1 z2 z3:Value) (cs us:List Value) (x1 x2 x3:Value):Bool:= @decide (vh k j w1 w2 w3 z1 z2 z3 cs us x1 x2 x3) (Classical.propDecidable _)
theorem Wb (k:Nat) (j:Int) (w1 w2 w3 z1 z2 z3:Value) (cs us:List Value) (x1 x2 x3:Value) (h:vh k j w1 w2 w3 z1 z2 z3 cs us x1 x2 x3):tM k j w1 w2 w3 z1 z2 z3 cs us x1 x2 x3=true:= @decide_eq_true _ (Classical.propDecidable _) h
theorem agd (T:List AV) (H:Hp) (e:Ex) (J:List AV) (I:Hp) (h:He tM oK T H=some (true,e,J,I)):V.Ends Tryz.prog false 4 0 (.loop (lb 81 fg)) T H e J I:=by
 unfold He at h
 split at h
 ·rename_i k j w1 w2 w3 z1 z2 z3 cs us x1 x2 x3 U Z ab
  rw [Bool.cond_eq_ite] at h
  split at h
  ·rename_i M
   rw [beq_iff_eq] at M
   simp only [Option.some.injEq,Prod.mk.injEq,Bool.and_eq_true,decide_eq_true_eq] at h
   obtain ⟨k1,rfl,rfl,rfl⟩:=h
   have a1:= @of_decide_eq_true _ (Classical.propDecidable _) k1
   refine Ends.pre (Ob k j w1 w2 w3 z1 z2 z3 cs us x1 x2 x3 a1).1.ends (fun α B w D a6 aE=>bq M (fun p O y G=> ?_) aE)
   simp only [List.mem_cons,List.not_mem_nil,or_false] at O
   rcases O with rfl | rfl | rfl
   ·rw [U] at G;exact G
   ·rw [Z] at G;exact G
   ·rw [ab] at G;exact G
  ·cases h
 ·cases h
theorem R9 {L:aC} (h:aB Tryz.prog L):aB Tryz.prog (Cc tM oK L):=h.bz Tx agd
end
end Go.Proofs.YtamcpiicmfielaaGreat.L
namespace Go.Proofs.YtamcpiicmfielaaGreat.L
open Go Go.V Go.RowKit Go.Proofs.YtamcpiicmfielaaGreat.Sp
open Go.Proofs (Tryz.prog)
noncomputable section
theorem LP:∀ l k:List Rat,l.Pairwise (· < ·)→k.Pairwise (· < ·)→(∀ x,x ∈ l↔x ∈ k)→l=k
 | [], [],_,_,_=>rfl
 | [],y :: k,_,_,h=>by have:=(h y).2 List.mem_cons_self;cases this
 | x :: l, [],_,_,h=>by have:=(h x).1 List.mem_cons_self;cases this
 | x :: l,y :: k,Z,ab,h=>by
  obtain ⟨J,O⟩:=List.pairwise_cons.1 Z
  obtain ⟨M,U⟩:=List.pairwise_cons.1 ab
  have aE:x=y:=by
   rcases List.mem_cons.1 ((h x).1 List.mem_cons_self) with e | e
   ·exact e
   ·rcases List.mem_cons.1 ((h y).2 List.mem_cons_self) with I | I
    ·exact I.symm
    ·have a1:=M x e
     have a6:=J y I
     grind
  subst aE
  rw [LP l k O U fun z=> ?_]
  constructor
  ·intro G
   rcases List.mem_cons.1 ((h z).1 (List.mem_cons_of_mem _ G)) with e | e
   ·have:=J z G
    subst e
    grind
   ·exact e
  ·intro G
   rcases List.mem_cons.1 ((h z).2 (List.mem_cons_of_mem _ G)) with e | e
   ·have:=M z G
    subst e
    grind
   ·exact e
def j5:List Rat→Rat→List Rat
 | [],x=> [x]
 | y :: l,x=>if y < x then y :: j5 l x else if y=x then y :: l else x :: y :: l
theorem DM (x z:Rat):∀ l:List Rat,z ∈ j5 l x↔z=x∨z ∈ l
 | []=>by unfold j5;simp
 | y :: l=>by
  have G:=DM x z l
  unfold j5
  split
  ·simp only [List.mem_cons,G];grind
  ·split
   ·rename_i e;subst e;simp only [List.mem_cons];grind
   ·simp only [List.mem_cons]
theorem MA (x:Rat):∀ l:List Rat,l.Pairwise (· < ·)→(j5 l x).Pairwise (· < ·)
 | [],_=>List.pairwise_singleton _ _
 | y :: l,h=>by
  obtain ⟨I,J⟩:=List.pairwise_cons.1 h
  unfold j5
  split
  ·rename_i M
   refine List.pairwise_cons.2 ⟨fun z G=> ?_,MA x l J⟩
   rcases (DM x z l).1 G with e | e
   ·rw [e];exact M
   ·exact I z e
  ·split
   ·exact h
   ·rename_i O U
    refine List.pairwise_cons.2 ⟨fun z G=> ?_,h⟩
    rcases List.mem_cons.1 G with e | e
    ·rw [e];grind
    ·have:=I z e
     grind
theorem Mz (x:Rat):∀ l:List Rat,j5 l x=if cX l x < l.length∧l.getD (cX l x) 0=x then l else l.take (cX l x) ++ x :: l.drop (cX l x)
 | []=>rfl
 | y :: l=>by
  have O:=Mz x l
  unfold j5 cX
  by_cases h:y < x
  ·rw [if_pos h,if_pos h,O]
   have e1:(y :: l).getD (cX l x+1) 0=l.getD (cX l x) 0:=rfl
   have M:(cX l x+1 < (y :: l).length)↔cX l x < l.length:=Nat.succ_lt_succ_iff
   by_cases G:cX l x < l.length∧l.getD (cX l x) 0=x
   ·rw [if_pos G,if_pos ⟨M.2 G.1,e1.trans G.2⟩]
   ·rw [if_neg G,if_neg fun J=>G ⟨M.1 J.1,e1.symm.trans J.2⟩]
    rfl
  ·rw [if_neg h,if_neg h]
   by_cases I:y=x
   ·rw [if_pos I,if_pos ⟨Nat.zero_lt_succ _,I⟩]
   ·rw [if_neg I,if_neg fun J=>I J.2]
    rfl
def cd (S:Nat→Rat) (lo hi:Rat):Nat→List Rat
 | 0=> []
 | j+1=>if lo≤S j∧S j≤hi then j5 (cd S lo hi j) (S j) else cd S lo hi j
theorem zR (S:Nat→Rat) (lo hi:Rat):∀ j:Nat,(cd S lo hi j).Pairwise (· < ·)∧∀ x,x ∈ cd S lo hi j↔x ∈ bn S lo hi j
 | 0=> ⟨List.Pairwise.nil,fun x=>Iff.rfl⟩
 | j+1=>by
  obtain ⟨G,I⟩:=zR S lo hi j
  unfold cd bn
  split
  ·exact ⟨MA _ _ G,fun x=>by rw [DM,List.mem_append,List.mem_singleton,I];exact Or.comm⟩
  ·exact ⟨G,I⟩
theorem Fo (S:Nat→Rat) (lo hi:Rat) (N:Nat):cd S lo hi N=cI S lo hi N:=by
 obtain ⟨G,I⟩:=zR S lo hi N
 obtain ⟨J,M⟩:=DY S lo hi N
 exact LP _ _ G J fun x=>by rw [I,M,mR]
theorem adt {S:Nat→Rat} {lo hi:Rat} {N:Nat} (h:∀ j,j < N→cK (S j)≤1000):∀ i,i < (cd S lo hi N).length→cK ((cd S lo hi N).getD i 0)≤1000:=fun i G=>by
 rw [List.getD_eq_getElem?_getD,List.getElem?_eq_getElem G]
 obtain ⟨j,J,I,_⟩:=(mR _ _ _ _ N).1 (((zR S lo hi N).2 _).1 (List.getElem_mem G))
 show cK (cd S lo hi N)[i]≤1000
 rw [I]
 exact h j J
theorem My (x:Rat):∀ l:List Rat,(j5 l x).length≤l.length+1
 | []=>Nat.le_refl _
 | y :: l=>by
  have G:=My x l
  unfold j5
  split
  ·exact Nat.succ_le_succ G
  ·split
   ·exact Nat.le_succ _
   ·exact Nat.le_refl _
theorem zS (S:Nat→Rat) (lo hi:Rat):∀ j:Nat,(cd S lo hi j).length≤j
 | 0=>Nat.le_refl _
 | j+1=>by
  have G:=zS S lo hi j
  unfold cd
  split
  ·have:=My (S j) (cd S lo hi j);omega
  ·omega
end
end Go.Proofs.YtamcpiicmfielaaGreat.L
namespace Go.Proofs.YtamcpiicmfielaaGreat.L
open Go Go.V Go.RowKit Go.Proofs.YtamcpiicmfielaaGreat.Sp
open Go.Proofs (Tryz.prog)
noncomputable section
abbrev nf:List Bool:= [false,true,false,true,true,true,true,true,true,true]
def jm (N k:Nat) (i:Int) (w1 w2 w3 z1 z2 z3:Value) (cs us:List Value):List AV:=ar 121 [(6, .ptr 0 0),(7, .ptr 1 0),(8, .sl false 27 2 0 N),(9, .sl false 27 3 0 k),(10, .val (.int .i64 i))]
def iO (N k:Nat) (i:Int) (w1 w2 w3 z1 z2 z3:Value) (cs us:List Value):Hp:= [.row (.cells [.val w1,.val w2,.val w3]) 27 .live, .row (.cells [.val z1,.val z2,.val z3]) 27 .live, .row (.vals cs) 27 .live, .row (.vals us) 27 .live]
theorem Vl:aH Tryz.prog 34 (false :: nf)=some (lb 34 nf):=by kernel_rfl
theorem O6 (U:Qg) (b0:JE) (O:I5) (N k:Nat) (i:Int) (w1 w2 w3 z1 z2 z3:Value) (cs us:List Value):letI J:=(cs.getD (0+i.toNat*3) undef);letI I:=(cs.getD (0+i.toNat*3+1) undef);letI G:=(cs.getD (0+i.toNat*3+1+1) undef);letI M:=(O k (0:Int) w1 w2 w3 z1 z2 z3 cs us J I G);letI ab:=(1+(k - M.toNat));letI Z:=(0+M.toNat*3);letI bx:Option (Ex×List AV×Hp):=(bif ai IntKind.i64 (i+1) then some (.normal,ar 121 [(6,(.ptr 0 0)),(7,(.ptr 1 0)),(8,(.sl false 27 2 0 N)),(9,(.sl false 27 3 0 (M.toNat - 0+1))),(10,(.val (.int .i64 (i+1))))], [(.row (.cells [(.val (w1)),(.val (w2)),(.val (w3))]) 27 .live),(.row (.cells [(.val (z1)),(.val (z2)),(.val (z3))]) 27 .live),(.row (.vals cs) 27 .live),(.row (.vals ((List.take ((M.toNat - 0)*3) us) ++ ([J,I,G]:List Value))) 27 .live)]) else none);letI bD:=(ao.vals ([cs.getD (0+i.toNat*3) undef,cs.getD (0+i.toNat*3+1) undef,cs.getD (0+i.toNat*3+1+1) undef] ++ List.take ((k - M.toNat)*3) (List.drop Z us)));letI a7:Option (Ex×List AV×Hp):=(bif ai IntKind.i64 (i+1) then some (.normal,ar 121 [(6,(.ptr 0 0)),(7,(.ptr 1 0)),(8,(.sl false 27 2 0 N)),(9,(.sl false 27 3 0 (M.toNat - 0+ab))),(10,(.val (.int .i64 (i+1))))], [(.row (.cells [(.val (w1)),(.val (w2)),(.val (w3))]) 27 .live),(.row (.cells [(.val (z1)),(.val (z2)),(.val (z3))]) 27 .live),(.row (.vals cs) 27 .live),(.row (.vals ((List.take ((M.toNat - 0)*3) us) ++ (List.take (ab*3) (List.drop 0 ((List.take 3 ([J,I,G]:List Value)) ++ (List.take ((k - M.toNat)*3) (List.drop Z us))))))) 27 .live)]) else none);letI a6:Option (Ex×List AV×Hp):=(bif decide (0≤O k (0:Int) w1 w2 w3 z1 z2 z3 cs us J I G)&&decide (O k (0:Int) w1 w2 w3 z1 z2 z3 cs us J I G≤(↑k:Int)) then (bif decide (O k (0:Int) w1 w2 w3 z1 z2 z3 cs us J I G≤O k (0:Int) w1 w2 w3 z1 z2 z3 cs us J I G)&&decide (O k (0:Int) w1 w2 w3 z1 z2 z3 cs us J I G≤(↑k:Int)) then (bif [AV.val J,AV.val I,AV.val G].all bB then (bif decide (0≤O k (0:Int) w1 w2 w3 z1 z2 z3 cs us J I G)&&decide (O k (0:Int) w1 w2 w3 z1 z2 z3 cs us J I G≤(↑k:Int)) then (bif decide (0+M.toNat*3+(k - M.toNat)*3≤(ao.vals us).len) then (bif aU Tryz.prog ab 27&&((ao.vals us).sub Z ((k - M.toNat)*3)).bk then (bif decide (k - M.toNat=0) then (bif decide ((M.toNat - 0)*3≤(ao.vals us).len)&&aU Tryz.prog (M.toNat - 0+1) 27&&((dC (intKind Tryz.prog 27) [AV.val J,AV.val I,AV.val G]).sub 0 3).bk then (bif decide (O k (0:Int) w1 w2 w3 z1 z2 z3 cs us J I G=O k (0:Int) w1 w2 w3 z1 z2 z3 cs us J I G) then bx else bx) else none) else (bif decide (0+ab*3≤bD.len) then (bif decide ((M.toNat - 0)*3≤(ao.vals us).len)&&aU Tryz.prog (M.toNat - 0+ab) 27&&(bD.sub 0 (ab*3)).bk then (bif decide (O k (0:Int) w1 w2 w3 z1 z2 z3 cs us J I G=O k (0:Int) w1 w2 w3 z1 z2 z3 cs us J I G) then (bif decide (1+(k - M.toNat)=0) then (bif ai IntKind.i64 (i+1) then some (.normal,ar 121 [(6,(.ptr 0 0)),(7,(.ptr 1 0)),(8,(.sl false 27 2 0 N)),(9,(.sl (decide (O k (0:Int) w1 w2 w3 z1 z2 z3 cs us J I G=O k (0:Int) w1 w2 w3 z1 z2 z3 cs us J I G)) 27 3 0 (M.toNat - 0))),(10,(.val (.int .i64 (i+1))))], [(.row (.cells [(.val (w1)),(.val (w2)),(.val (w3))]) 27 .live),(.row (.cells [(.val (z1)),(.val (z2)),(.val (z3))]) 27 .live),(.row (.vals cs) 27 .live),(.row (.vals us) 27 .live)]) else none) else a7) else a7) else none) else none)) else none) else none) else none) else none) else none) else none);letI aE:Option (Ex×List AV×Hp):=(bif ai IntKind.i64 (i+1) then some (.normal,ar 121 [(6,(.ptr 0 0)),(7,(.ptr 1 0)),(8,(.sl false 27 2 0 N)),(9,(.sl false 27 3 0 k)),(10,(.val (.int .i64 (i+1))))], [(.row (.cells [(.val (w1)),(.val (w2)),(.val (w3))]) 27 .live),(.row (.cells [(.val (z1)),(.val (z2)),(.val (z3))]) 27 .live),(.row (.vals cs) 27 .live),(.row (.vals us) 27 .live)]) else none);letI a1:=(aG (ah (us.getD (0+M.toNat*3+1) undef)) (ah I)&&(aG (ah (us.getD (0+M.toNat*3+1+1) undef)) (ah G)&&true));
  (aO Tryz.prog (⟨aw 48 (cZ (oU U)) aK,au,Cc b0 O aq⟩:Env) 34 [6,7,8,9,10] (lb 34 nf) (false :: nf) (jm N k i w1 w2 w3 z1 z2 z3 cs us) (iO N k i w1 w2 w3 z1 z2 z3 cs us)=(bif decide (i < (↑N:Int)) then (bif decide (0≤i)&&decide (i < (↑N:Int)) then (bif decide (0+i.toNat*3 < cs.length) then (bif decide (0+i.toNat*3+1 < cs.length) then (bif decide (0+i.toNat*3+1+1 < cs.length) then (bif aY w1 w2 w3&&aY J I G&&(U.aV (ah w2) (ah w3)&&U.aV (ah I) (ah G)) then (bif decide (U.cq (U.qv (az w1) (ah w2) (ah w3)) (U.qv (az J) (ah I) (ah G))≤0) then (bif decide (0≤i)&&decide (i < (↑N:Int)) then (bif decide (0+i.toNat*3 < cs.length) then (bif decide (0+i.toNat*3+1 < cs.length) then (bif decide (0+i.toNat*3+1+1 < cs.length) then (bif aY J I G&&aY z1 z2 z3&&(U.aV (ah I) (ah G)&&U.aV (ah z2) (ah z3)) then (bif decide (U.cq (U.qv (az J) (ah I) (ah G)) (U.qv (az z1) (ah z2) (ah z3))≤0) then (bif decide (0≤i)&&decide (i < (↑N:Int)) then (bif decide (0+i.toNat*3 < cs.length) then (bif decide (0+i.toNat*3+1 < cs.length) then (bif decide (0+i.toNat*3+1+1 < cs.length) then (bif decide (0+k*3≤(ao.vals us).len) then (bif [AV.val J,AV.val I,AV.val G].all bB then (bif b0 k (0:Int) w1 w2 w3 z1 z2 z3 cs us J I G then (bif decide (O k (0:Int) w1 w2 w3 z1 z2 z3 cs us J I G < (↑k:Int)) then (bif decide (0≤O k (0:Int) w1 w2 w3 z1 z2 z3 cs us J I G)&&decide (O k (0:Int) w1 w2 w3 z1 z2 z3 cs us J I G < (↑k:Int)) then (bif decide (0+M.toNat*3 < us.length) then (bif decide (0+M.toNat*3+1 < us.length) then (bif decide (0+M.toNat*3+1+1 < us.length) then (bif b8 (us.getD Z undef)&&b8 J then (bif bb (us.getD (0+M.toNat*3+1) undef)&&bb I then (bif bb (us.getD (0+M.toNat*3+1+1) undef)&&bb G then (bif bif false then !(az (us.getD Z undef)==az J&&a1) else az (us.getD Z undef)==az J&&a1 then aE else a6) else none) else none) else none) else none) else none) else none) else none) else a6) else none) else none) else none) else none) else none) else none) else none) else aE) else none) else none) else none) else none) else none) else aE) else none) else none) else none) else none) else none) else some ((.exit 0),ar 121 [(6,(.ptr 0 0)),(7,(.ptr 1 0)),(8,(.sl false 27 2 0 N)),(9,(.sl false 27 3 0 k)),(10,(.val (.int .i64 i)))], [(.row (.cells [(.val (w1)),(.val (w2)),(.val (w3))]) 27 .live),(.row (.cells [(.val (z1)),(.val (z2)),(.val (z3))]) 27 .live),(.row (.vals cs) 27 .live),(.row (.vals us) 27 .live)]))):=by kernel_rfl
theorem sK {N k:Nat} {i:Int} {w1 w2 w3 z1 z2 z3:Value} {cs us:List Value} {e:Ex} {T:List AV} {H:Hp} (h:aO Tryz.prog (⟨aw 48 (cZ (oU af)) aK,au,Cc tM oK aq⟩:Env) 34 [6,7,8,9,10] (lb 34 nf) (false :: nf) (jm N k i w1 w2 w3 z1 z2 z3 cs us) (iO N k i w1 w2 w3 z1 z2 z3 cs us)=some (e,T,H)):V.Ends Tryz.prog false 0 0 (lb 34 nf) (jm N k i w1 w2 w3 z1 z2 z3 cs us) (iO N k i w1 w2 w3 z1 z2 z3 cs us) e T H:=
 bF ((aJ _).add ru.cZ) (R9 aB.none).ok mixed Vl h
abbrev eH:List Bool:= [false,true,false,true,true,true,true,true,true,true]
def kJ (N:Nat) (i:Int) (w1 w2 w3 z1 z2 z3:Value) (cs:List Value):List AV:=ar 121 [(6, .ptr 0 0),(7, .ptr 1 0),(8, .sl false 27 2 0 N),(9, .sl true 27 3 0 0),(10, .val (.int .i64 i))]
def jR (N:Nat) (i:Int) (w1 w2 w3 z1 z2 z3:Value) (cs:List Value):Hp:= [.row (.cells [.val w1,.val w2,.val w3]) 27 .live, .row (.cells [.val z1,.val z2,.val z3]) 27 .live, .row (.vals cs) 27 .live, .row (.cells []) 27 .live]
theorem TJ:aH Tryz.prog 34 eH=some (.loop (lb 34 eH)):=by kernel_rfl
theorem Vo:aH Tryz.prog 34 (false :: eH)=some (lb 34 eH):=by kernel_rfl
theorem FA (G:Qg) (N:Nat) (i:Int) (w1 w2 w3 z1 z2 z3:Value) (cs:List Value):letI I:=(cs.getD (0+i.toNat*3+1+1) undef);letI J:=(cs.getD (0+i.toNat*3+1) undef);letI O:Option (Ex×List AV×Hp):=(bif ai IntKind.i64 (i+1) then some (.normal,ar 121 [(6,(.ptr 0 0)),(7,(.ptr 1 0)),(8,(.sl false 27 2 0 N)),(9,(.sl true 27 3 0 0)),(10,(.val (.int .i64 (i+1))))], [(.row (.cells [(.val (w1)),(.val (w2)),(.val (w3))]) 27 .live),(.row (.cells [(.val (z1)),(.val (z2)),(.val (z3))]) 27 .live),(.row (.vals cs) 27 .live),(.row (.cells []) 27 .live)]) else none);letI M:=(cs.getD (0+i.toNat*3) undef);
  (aO Tryz.prog (tk G) 34 [6,7,8,9,10] (lb 34 eH) (false :: eH) (kJ N i w1 w2 w3 z1 z2 z3 cs) (jR N i w1 w2 w3 z1 z2 z3 cs)=(bif decide (i < (↑N:Int)) then (bif decide (0≤i)&&decide (i < (↑N:Int)) then (bif decide (0+i.toNat*3 < cs.length) then (bif decide (0+i.toNat*3+1 < cs.length) then (bif decide (0+i.toNat*3+1+1 < cs.length) then (bif aY w1 w2 w3&&aY M J I&&(G.aV (ah w2) (ah w3)&&G.aV (ah J) (ah I)) then (bif decide (G.cq (G.qv (az w1) (ah w2) (ah w3)) (G.qv (az M) (ah J) (ah I))≤0) then (bif decide (0≤i)&&decide (i < (↑N:Int)) then (bif decide (0+i.toNat*3 < cs.length) then (bif decide (0+i.toNat*3+1 < cs.length) then (bif decide (0+i.toNat*3+1+1 < cs.length) then (bif aY M J I&&aY z1 z2 z3&&(G.aV (ah J) (ah I)&&G.aV (ah z2) (ah z3)) then (bif decide (G.cq (G.qv (az M) (ah J) (ah I)) (G.qv (az z1) (ah z2) (ah z3))≤0) then (bif decide (0≤i)&&decide (i < (↑N:Int)) then (bif decide (0+i.toNat*3 < cs.length) then (bif decide (0+i.toNat*3+1 < cs.length) then (bif decide (0+i.toNat*3+1+1 < cs.length) then (bif [AV.val M,AV.val J,AV.val I].all bB then (bif [AV.val M,AV.val J,AV.val I].all bB then (bif ((dC (intKind Tryz.prog 27) [AV.val M,AV.val J,AV.val I]).sub 0 3).bk then (bif ai IntKind.i64 (i+1) then some (.normal,ar 121 [(6,(.ptr 0 0)),(7,(.ptr 1 0)),(8,(.sl false 27 2 0 N)),(9,(.sl false 27 3 0 1)),(10,(.val (.int .i64 (i+1))))], [(.row (.cells [(.val (w1)),(.val (w2)),(.val (w3))]) 27 .live),(.row (.cells [(.val (z1)),(.val (z2)),(.val (z3))]) 27 .live),(.row (.vals cs) 27 .live),(.row (.cells [(.val M),(.val J),(.val I)]) 27 .live)]) else none) else none) else none) else none) else none) else none) else none) else none) else O) else none) else none) else none) else none) else none) else O) else none) else none) else none) else none) else none) else some ((.exit 0),ar 121 [(6,(.ptr 0 0)),(7,(.ptr 1 0)),(8,(.sl false 27 2 0 N)),(9,(.sl true 27 3 0 0)),(10,(.val (.int .i64 i)))], [(.row (.cells [(.val (w1)),(.val (w2)),(.val (w3))]) 27 .live),(.row (.cells [(.val (z1)),(.val (z2)),(.val (z3))]) 27 .live),(.row (.vals cs) 27 .live),(.row (.cells []) 27 .live)]))):=by kernel_rfl
theorem Ah {N:Nat} {i:Int} {w1 w2 w3 z1 z2 z3:Value} {cs:List Value} {e:Ex} {T:List AV} {H:Hp} (h:aO Tryz.prog (tk af) 34 [6,7,8,9,10] (lb 34 eH) (false :: eH) (kJ N i w1 w2 w3 z1 z2 z3 cs) (jR N i w1 w2 w3 z1 z2 z3 cs)=some (e,T,H)):V.Ends Tryz.prog false 0 0 (lb 34 eH) (kJ N i w1 w2 w3 z1 z2 z3 cs) (jR N i w1 w2 w3 z1 z2 z3 cs) e T H:=
 bF ((aJ _).add ru.cZ) aN mixed Vo h
theorem UM (l:List Rat) {P:Nat} (G:P≤l.length):aL (l.take P)=(aL l).take (P*3)∧aL (l.drop P)=(aL l).drop (P*3):=by
 have e:aL l=aL (l.take P) ++ aL (l.drop P):=by rw [← ri,List.take_append_drop]
 have h:(aL (l.take P)).length=P*3:=by rw [mM,List.length_take,Nat.min_eq_left G]
 rw [e,List.take_left' h,List.drop_left' h]
 exact ⟨rfl,rfl⟩
theorem Zl (l:List Rat) (x:Rat) {P:Nat} (M:P≤l.length):List.take (P*3) (aL l) ++ List.take ((1+(l.length - P))*3) (dD x ++ List.take ((l.length - P)*3) (List.drop (P*3) (aL l)))=aL (l.take P ++ x :: l.drop P):=by
 obtain ⟨e1,G⟩:=UM l M
 have I:aL (x :: l.drop P)=dD x ++ aL (l.drop P):=rfl
 have J:(aL (l.drop P)).length=(l.length - P)*3:=by rw [mM,List.length_drop]
 rw [ri,I,← e1,← G,List.take_of_length_le (l:=aL (l.drop P)) (by omega),List.take_of_length_le (l:=dD x ++ aL (l.drop P))]
 rw [List.length_append,J]
 show 3+_≤_
 omega
theorem xp {vs:List Value} (h:(ao.vals vs).bk=true) (o m:Nat):((ao.vals vs).sub o m).bk=true:=by
 have h:vs.all (·.oneCell')=true:=h
 show ((vs.drop o).take m).all (·.oneCell')=true
 rw [List.all_eq_true] at h ⊢
 exact fun v G=>h v (List.mem_of_mem_drop (List.mem_of_mem_take G))
theorem Kr {a b:List Value} (h:(ao.vals a).bk=true) (k:(ao.vals b).bk=true):(ao.vals (a ++ b)).bk=true:=by
 have h:a.all (·.oneCell')=true:=h
 have k:b.all (·.oneCell')=true:=k
 show (a ++ b).all (·.oneCell')=true
 rw [List.all_append,h,k];rfl
theorem xk:∀ l:List Rat,(ao.vals (aL l)).bk=true
 | []=>rfl
 | x :: l=>Kr (a:=dD x) rfl (xk l)
section
variable {N : Nat} {w1 w2 w3 z1 z2 z3 : Value} {us cs : List Value}
def pZ (S:Nat→Rat) (lo hi:Rat) (j:Nat) (l:List Rat):List Rat:=if lo≤S j∧S j≤hi then j5 l (S j) else l
theorem abm (h:cL N cs w1 w2 w3 z1 z2 z3) (j:Nat) (b0:j < N) (l:List Rat) (c7:l.length≤j) (ct:∀ i,i < l.length→cK (l.getD i 0)≤1000):V.Ends Tryz.prog false 0 0 (lb 34 nf) (jm N l.length j w1 w2 w3 z1 z2 z3 cs (aL l)) (iO N l.length j w1 w2 w3 z1 z2 z3 cs (aL l)) .normal
  (jm N (pZ (qt cs) (rv w1 w2 w3) (rv z1 z2 z3) j l).length ((j+1:Nat):Int) w1 w2 w3 z1 z2 z3 cs (aL (pZ (qt cs) (rv w1 w2 w3) (rv z1 z2 z3) j l)))
  (iO N (pZ (qt cs) (rv w1 w2 w3) (rv z1 z2 z3) j l).length ((j+1:Nat):Int) w1 w2 w3 z1 z2 z3 cs (aL (pZ (qt cs) (rv w1 w2 w3) (rv z1 z2 z3) j l))):=by
 have dx:=h.lim
 have c6:cs.length=N*3:=by rw [h.can,iE]
 have dy:=h.sz j b0
 obtain ⟨b3,b4,b5⟩:=jH h.can j b0
 have G:=O6 af tM oK N l.length j w1 w2 w3 z1 z2 z3 cs (aL l)
 have e0:(ao.vals (aL l)).len=l.length*3:=mM l
 have c3:c9 (af.qs (qt cs j)) (af.qd (qt cs j))=true:=ab5 (by omega)
 have bx:vh l.length 0 w1 w2 w3 z1 z2 z3 cs (aL l) (.bool (af.qn (qt cs j))) (.string (af.qs (qt cs j))) (.string (af.qd (qt cs j))):= ⟨rfl,by rw [uM],by rw [uM],by omega,fun i hi=>by rw [uM];exact ct i hi,oy _ _ _,c3⟩
 have c0:oK l.length 0 w1 w2 w3 z1 z2 z3 cs (aL l) (.bool (af.qn (qt cs j))) (.string (af.qs (qt cs j))) (.string (af.qd (qt cs j)))=(cX l (qt cs j):Nat):=by
  have:=(Ob _ _ _ _ _ _ _ _ _ _ _ _ _ bx).2
  unfold zx at this
  rw [this,uM,show rv (.bool (af.qn (qt cs j))) (.string (af.qs (qt cs j))) (.string (af.qd (qt cs j)))=qt cs j from fK _]
 have ch:=Wb _ _ _ _ _ _ _ _ _ _ _ _ _ bx
 obtain ⟨p1,p2,p3⟩:=Et (qt cs j) l
 have bD:=Mz (qt cs j) l
 simp only [Int.toNat_natCast,Nat.zero_add,b3,b4,b5,c0,ch,e0,ma,Em,oy,Nat.le_refl,Int.le_refl,decide_true,Bool.true_and,Bool.and_true,Nat.sub_zero,List.drop_zero] at G
 rw [dT (show (j:Int) < (N:Int) by omega),dT (show (0:Int)≤(j:Int) by omega),dT (show j*3 < cs.length by omega),dT (show j*3+1 < cs.length by omega),dT (show j*3+1+1 < cs.length by omega),aM (z:=(j:Int)+1) (by omega),h.wr,h.zr,ff h.lo,ff h.hi,
  show af.aV (ah (.string (af.qs (qt cs j)))) (ah (.string (af.qd (qt cs j))))=true from zj (by omega),show af.qv (az (.bool (af.qn (qt cs j)))) (ah (.string (af.qs (qt cs j)))) (ah (.string (af.qd (qt cs j))))=qt cs j from fK _,show af.qv (az w1) (ah w2) (ah w3)=rv w1 w2 w3 from rfl,show af.qv (az z1) (ah z2) (ah z3)=rv z1 z2 z3 from rfl] at G
 unfold pZ
 by_cases O:rv w1 w2 w3≤qt cs j
 case neg=>
  rw [dF (fun I=>O (dU.1 I))] at G
  rw [if_neg (fun I=>O I.1)]
  exact sK G
 rw [dT (dU.2 O)] at G
 by_cases U:qt cs j≤rv z1 z2 z3
 case neg=>
  rw [dF (fun I=>U (dU.1 I))] at G
  rw [if_neg (fun I=>U I.2)]
  exact sK G
 rw [dT (dU.2 U)] at G
 rw [if_pos ⟨O,U⟩]
 have b1:(aL l).length=l.length*3:=mM l
 rw [bD]
 clear bD
 generalize cX l (qt cs j)=P at*
 have b7:=fun (J:P≤l.length)=>Zl l (qt cs j) J
 have b2:=fL (m:=1+(l.length - P)) (by omega)
 have c4:=fL (m:=P+1) (by omega)
 have c5:=fL (m:=P+(1+(l.length - P))) (by omega)
 by_cases J:P < l.length
 ·obtain ⟨a1,a6,a7⟩:=jH (n9 l) P J
  rw [il _ J] at a1 a6 a7
  rw [a1,a6,a7,dT (show (P:Int) < (l.length:Int) by omega),dT (show (0:Int)≤(P:Int) by omega),dT (show P*3 < (aL l).length by omega),dT (show P*3+1 < (aL l).length by omega),dT (show P*3+1+1 < (aL l).length by omega)] at G
  have M:=ac8 (l.getD P 0) (qt cs j)
  rw [Bool.and_true] at M
  by_cases Z:l.getD P 0=qt cs j
  ·rw [if_pos ⟨J,Z⟩]
   rw [decide_eq_true Z] at M
   rw [show (az (Value.bool (af.qn (l.getD P 0)))==az (Value.bool (af.qn (qt cs j)))&&(aG (ah (Value.string (af.qs (l.getD P 0)))) (ah (Value.string (af.qs (qt cs j))))&&aG (ah (Value.string (af.qd (l.getD P 0)))) (ah (Value.string (af.qd (qt cs j))))))=true from M] at G
   exact sK G
  ·rw [if_neg (fun I=>Z I.2)]
   rw [decide_eq_false Z] at M
   rw [show (az (Value.bool (af.qn (l.getD P 0)))==az (Value.bool (af.qn (qt cs j)))&&(aG (ah (Value.string (af.qs (l.getD P 0)))) (ah (Value.string (af.qs (qt cs j))))&&aG (ah (Value.string (af.qd (l.getD P 0)))) (ah (Value.string (af.qd (qt cs j))))))=false from M] at G
   rw [dT (show (P:Int)≤(l.length:Int) by omega),dT (show P*3+(l.length - P)*3≤l.length*3 by omega),b2,dF (show ¬ l.length - P=0 by omega)] at G
   simp only [Bool.and_self,cond_true,cond_false,Bool.not_false] at G
   have ab:(ao.vals (dD (qt cs j) ++ List.take ((l.length - P)*3) (List.drop (P*3) (aL l)))).len=(1+(l.length - P))*3:=by
    show (dD (qt cs j) ++ List.take ((l.length - P)*3) (List.drop (P*3) (aL l))).length=_
    rw [List.length_append,List.length_take,List.length_drop,b1]
    show 3+_=_
    omega
   have aE:=xp (Kr (a:=dD (qt cs j)) rfl (xp (xk l) (P*3) ((l.length - P)*3))) 0 ((1+(l.length - P))*3)
   have ab:(ao.vals ([Value.bool (af.qn (qt cs j)),Value.string (af.qs (qt cs j)),Value.string (af.qd (qt cs j))] ++ List.take ((l.length - P)*3) (List.drop (P*3) (aL l)))).len=(1+(l.length - P))*3:=ab
   have aE:((ao.vals ([Value.bool (af.qn (qt cs j)),Value.string (af.qs (qt cs j)),Value.string (af.qd (qt cs j))] ++ List.take ((l.length - P)*3) (List.drop (P*3) (aL l)))).sub 0 ((1+(l.length - P))*3)).bk=true:=aE
   rw [xp (xk l),ab,dT (show (1+(l.length - P))*3≤(1+(l.length - P))*3 from Nat.le_refl _),dT (show P*3≤l.length*3 by omega),c5,aE,dF (show ¬ 1+(l.length - P)=0 by omega)] at G
   have b6:(List.take P l ++ qt cs j :: List.drop P l).length=P+(1+(l.length - P)):=by rw [List.length_append,List.length_cons,List.length_take,List.length_drop];omega
   rw [← b7 (by omega),b6]
   exact sK G
 ·rw [if_neg (fun I=>J I.1)]
  rw [dF (show ¬ (P:Int) < (l.length:Int) by omega),dT (show (0:Int)≤(P:Int) by omega),dT (show (P:Int)≤(l.length:Int) by omega),dT (show P*3+(l.length - P)*3≤l.length*3 by omega),b2,dT (show l.length - P=0 by omega)] at G
  simp only [Bool.and_self,cond_true,cond_false,Bool.not_false] at G
  rw [xp (xk l),dT (show P*3≤l.length*3 by omega),c4] at G
  have e:P=l.length:=by omega
  subst e
  rw [List.take_of_length_le (Nat.le_of_eq b1)] at G
  rw [List.take_length,List.drop_length,ri,xK,List.length_append]
  exact sK G
theorem abk {S:Nat→Rat} {lo hi:Rat} {j:Nat} :pZ S lo hi j (cd S lo hi j)=cd S lo hi (j+1):=by
 unfold pZ
 conv=>rhs;unfold cd
theorem abl (h:cL N cs w1 w2 w3 z1 z2 z3) (k:Nat):∀ j:Nat,N=j+k→av Tryz.prog (lb 34 nf) (jm N (cd (qt cs) (rv w1 w2 w3) (rv z1 z2 z3) j).length j w1 w2 w3 z1 z2 z3 cs (aL (cd (qt cs) (rv w1 w2 w3) (rv z1 z2 z3) j))) (iO N (cd (qt cs) (rv w1 w2 w3) (rv z1 z2 z3) j).length j w1 w2 w3 z1 z2 z3 cs (aL (cd (qt cs) (rv w1 w2 w3) (rv z1 z2 z3) j))) (.exit 0)
  (jm N (cd (qt cs) (rv w1 w2 w3) (rv z1 z2 z3) N).length N w1 w2 w3 z1 z2 z3 cs (aL (cd (qt cs) (rv w1 w2 w3) (rv z1 z2 z3) N))) (iO N (cd (qt cs) (rv w1 w2 w3) (rv z1 z2 z3) N).length N w1 w2 w3 z1 z2 z3 cs (aL (cd (qt cs) (rv w1 w2 w3) (rv z1 z2 z3) N))):=by
 induction k with
 | zero=>
  intro j I
  have:N=j:=by omega
  subst this
  refine .last (sK ?_) (by intro h;cases h)
  rw [O6,dF (show ¬ (N:Int) < (N:Int) by omega)]
  rfl
 | succ k J=>
  intro j I
  have G:=abm h j (by omega) _ (zS (qt cs) (rv w1 w2 w3) (rv z1 z2 z3) j) (adt fun i hi=>h.sz i (by omega))
  rw [abk] at G
  exact .more G (J (j+1) (by omega))
def Mt (w1 w2 w3 z1 z2 z3:Value) (x:Rat) (cs:List Value):Hp:= [.row (.cells [.val w1, .val w2, .val w3]) 27 .live, .row (.cells [.val z1, .val z2, .val z3]) 27 .live, .row (.vals cs) 27 .live, .row (.cells [.val (.bool (af.qn x)), .val (.string (af.qs x)), .val (.string (af.qd x))]) 27 .live]
theorem Zh {k:Nat} {i:Int} {x:Rat} :bC Tryz.prog (Mt w1 w2 w3 z1 z2 z3 x cs) (iO N k i w1 w2 w3 z1 z2 z3 cs (aL [x])):=
 bC.cons (fM.refl _) (bC.cons (fM.refl _) (bC.cons (fM.refl _) (bC.cons ⟨zY (by rw [xK];rfl),rfl,rfl⟩ bC.nil)))
theorem abD (h:cL N cs w1 w2 w3 z1 z2 z3) (j:Nat) (I:j < N) (U:rv w1 w2 w3≤qt cs j) (Z:qt cs j≤rv z1 z2 z3):V.Ends Tryz.prog false 0 0 (lb 34 eH) (kJ N j w1 w2 w3 z1 z2 z3 cs) (jR N j w1 w2 w3 z1 z2 z3 cs) .normal (jm N 1 ((j+1:Nat):Int) w1 w2 w3 z1 z2 z3 cs (aL [qt cs j])) (Mt w1 w2 w3 z1 z2 z3 (qt cs j) cs):=by
 have aE:=h.lim
 have ab:cs.length=N*3:=by rw [h.can,iE]
 have a1:=h.sz j I
 obtain ⟨J,M,O⟩:=jH h.can j I
 have G:=FA af N j w1 w2 w3 z1 z2 z3 cs
 simp only [Int.toNat_natCast,Nat.zero_add,J,M,O,ma,Em,oy] at G
 rw [dT (show (j:Int) < (N:Int) by omega),dT (show (0:Int)≤(j:Int) by omega),dT (show j*3 < cs.length by omega),dT (show j*3+1 < cs.length by omega),dT (show j*3+1+1 < cs.length by omega),aM (z:=(j:Int)+1) (by omega),h.wr,h.zr,ff h.lo,ff h.hi,
  show af.aV (ah (.string (af.qs (qt cs j)))) (ah (.string (af.qd (qt cs j))))=true from zj (by omega),show af.qv (az (.bool (af.qn (qt cs j)))) (ah (.string (af.qs (qt cs j)))) (ah (.string (af.qd (qt cs j))))=qt cs j from fK _,dT (show af.cq (af.qv (az w1) (ah w2) (ah w3)) (qt cs j)≤0 from dU.2 U),dT (show af.cq (qt cs j) (af.qv (az z1) (ah z2) (ah z3))≤0 from dU.2 Z)] at G
 exact Ah G
theorem Nr (h:cL N cs w1 w2 w3 z1 z2 z3) (j:Nat) (M:j < N) (ab:¬ (rv w1 w2 w3≤qt cs j∧qt cs j≤rv z1 z2 z3)):V.Ends Tryz.prog false 0 0 (lb 34 eH) (kJ N j w1 w2 w3 z1 z2 z3 cs) (jR N j w1 w2 w3 z1 z2 z3 cs) .normal (kJ N ((j+1:Nat):Int) w1 w2 w3 z1 z2 z3 cs) (jR N ((j+1:Nat):Int) w1 w2 w3 z1 z2 z3 cs):=by
 have a1:=h.lim
 have aE:cs.length=N*3:=by rw [h.can,iE]
 have a6:=h.sz j M
 obtain ⟨O,U,Z⟩:=jH h.can j M
 have G:=FA af N j w1 w2 w3 z1 z2 z3 cs
 simp only [Int.toNat_natCast,Nat.zero_add,O,U,Z,ma,oy] at G
 rw [dT (show (j:Int) < (N:Int) by omega),dT (show (0:Int)≤(j:Int) by omega),dT (show j*3 < cs.length by omega),dT (show j*3+1 < cs.length by omega),dT (show j*3+1+1 < cs.length by omega),aM (z:=(j:Int)+1) (by omega),h.wr,h.zr,ff h.lo,ff h.hi,
  show af.aV (ah (.string (af.qs (qt cs j)))) (ah (.string (af.qd (qt cs j))))=true from zj (by omega),show af.qv (az (.bool (af.qn (qt cs j)))) (ah (.string (af.qs (qt cs j)))) (ah (.string (af.qd (qt cs j))))=qt cs j from fK _,show af.qv (az w1) (ah w2) (ah w3)=rv w1 w2 w3 from rfl,show af.qv (az z1) (ah z2) (ah z3)=rv z1 z2 z3 from rfl] at G
 by_cases I:rv w1 w2 w3≤qt cs j
 ·rw [dT (dU.2 I),dF (fun J=>ab ⟨I,dU.1 J⟩)] at G
  exact Ah G
 ·rw [dF (fun J=>I (dU.1 J))] at G
  exact Ah G
theorem abC (h:cL N cs w1 w2 w3 z1 z2 z3) (O:cd (qt cs) (rv w1 w2 w3) (rv z1 z2 z3) N≠ []) (k:Nat):∀ j:Nat,N=j+k→cd (qt cs) (rv w1 w2 w3) (rv z1 z2 z3) j= []→av Tryz.prog (lb 34 eH) (kJ N j w1 w2 w3 z1 z2 z3 cs) (jR N j w1 w2 w3 z1 z2 z3 cs) (.exit 0)
  (jm N (cd (qt cs) (rv w1 w2 w3) (rv z1 z2 z3) N).length N w1 w2 w3 z1 z2 z3 cs (aL (cd (qt cs) (rv w1 w2 w3) (rv z1 z2 z3) N))) (iO N (cd (qt cs) (rv w1 w2 w3) (rv z1 z2 z3) N).length N w1 w2 w3 z1 z2 z3 cs (aL (cd (qt cs) (rv w1 w2 w3) (rv z1 z2 z3) N))):=by
 induction k with
 | zero=>
  intro j M I
  have:N=j:=by omega
  subst this
  exact absurd I O
 | succ k U=>
  intro j M I
  by_cases G:rv w1 w2 w3≤qt cs j∧qt cs j≤rv z1 z2 z3
  ·have e1:cd (qt cs) (rv w1 w2 w3) (rv z1 z2 z3) (j+1)= [qt cs j]:=by
    unfold cd
    rw [if_pos G,I];rfl
   have J:=abl h k (j+1) (by omega)
   rw [e1] at J
   exact .more (abD h j (by omega) G.1 G.2) (J.gJ Zh)
  ·exact .more (Nr h j (by omega) G) (U (j+1) (by omega) (by unfold cd;rw [if_neg G,I]))
theorem abB (h:cL N cs w1 w2 w3 z1 z2 z3) (M:bn (qt cs) (rv w1 w2 w3) (rv z1 z2 z3) N= []) (k:Nat):∀ j:Nat,N=j+k→av Tryz.prog (lb 34 eH) (kJ N j w1 w2 w3 z1 z2 z3 cs) (jR N j w1 w2 w3 z1 z2 z3 cs) (.exit 0) (kJ N N w1 w2 w3 z1 z2 z3 cs) (jR N N w1 w2 w3 z1 z2 z3 cs):=by
 induction k with
 | zero=>
  intro j J
  have:N=j:=by omega
  subst this
  refine .last (Ah ?_) (by intro h;cases h)
  rw [FA,dF (show ¬ (N:Int) < (N:Int) by omega)]
  rfl
 | succ k O=>
  intro j J
  refine .more (Nr h j (by omega) fun I=> ?_) (O (j+1) (by omega))
  have G:=(mR (qt cs) (rv w1 w2 w3) (rv z1 z2 z3) (qt cs j) N).2 ⟨j,by omega,rfl,I.1,I.2⟩
  rw [M] at G
  cases G
end
def vx (N:Nat) (i:Int) (w1 w2 w3 z1 z2 z3:Value) (cs:List Value):Prop:=i=0∧cL N cs w1 w2 w3 z1 z2 z3∧cd (qt cs) (rv w1 w2 w3) (rv z1 z2 z3) N≠ []
def EO (N:Nat) (i:Int) (w1 w2 w3 z1 z2 z3:Value) (cs:List Value) (ρ:Nat×Int×List Value):Prop:=ρ.1=(cd (qt cs) (rv w1 w2 w3) (rv z1 z2 z3) N).length∧ρ.2.2=aL (cd (qt cs) (rv w1 w2 w3) (rv z1 z2 z3) N)
theorem aaN (N:Nat) (i:Int) (w1 w2 w3 z1 z2 z3:Value) (cs:List Value) (h:vx N i w1 w2 w3 z1 z2 z3 cs):∃ ρ:Nat×Int×List Value,av Tryz.prog (lb 34 eH) (kJ N i w1 w2 w3 z1 z2 z3 cs) (jR N i w1 w2 w3 z1 z2 z3 cs) (.exit 0) (jm N ρ.1 ρ.2.1 w1 w2 w3 z1 z2 z3 cs ρ.2.2) (iO N ρ.1 ρ.2.1 w1 w2 w3 z1 z2 z3 cs ρ.2.2)∧EO N i w1 w2 w3 z1 z2 z3 cs ρ:=by
 obtain ⟨rfl,G,I⟩:=h
 exact ⟨(_,(N:Int),_),abC G I N 0 (by omega) rfl,rfl,rfl⟩
def Hu (I:Nat→Int→Value→Value→Value→Value→Value→Value→List Value→Bool) (G:Nat→Int→Value→Value→Value→Value→Value→Value→List Value→Nat×Int×List Value) (T:List AV) (H:Hp):Option (Bool×Ex×List AV×Hp):=
 match al T 6,al T 7,al T 8,al T 9,al T 10,H with
 | .ptr 0 0, .ptr 1 0, .sl false 27 2 0 N, .sl true 27 3 0 0, .val (.int .i64 i), [.row (.cells [.val w1,.val w2,.val w3]) 27 .live, .row (.cells [.val z1,.val z2,.val z3]) 27 .live, .row (.vals cs) 27 .live, .row (.cells []) 27 .live]=>bif T.length==121 then some (I N i w1 w2 w3 z1 z2 z3 cs, .exit 0,jm N ((G N i w1 w2 w3 z1 z2 z3 cs).1) ((G N i w1 w2 w3 z1 z2 z3 cs).2.1) w1 w2 w3 z1 z2 z3 cs ((G N i w1 w2 w3 z1 z2 z3 cs).2.2),iO N ((G N i w1 w2 w3 z1 z2 z3 cs).1) ((G N i w1 w2 w3 z1 z2 z3 cs).2.1) w1 w2 w3 z1 z2 z3 cs ((G N i w1 w2 w3 z1 z2 z3 cs).2.2)) else none
 | _,_,_,_,_,_=>none
abbrev BJ:Type:=Nat→Int→Value→Value→Value→Value→Value→Value→List Value→Bool
abbrev Bn:Type:=Nat→Int→Value→Value→Value→Value→Value→Value→List Value→Nat×Int×List Value
def q9 (G:BJ) (I:Bn) (L:aC):aC:=bp 0 34 eH [6,7,8,9,10] (Hu G I) L
def fJ (N:Nat) (i:Int) (w1 w2 w3 z1 z2 z3:Value) (cs:List Value):Nat×Int×List Value:=Classical.epsilon fun ρ=>av Tryz.prog (lb 34 eH) (kJ N i w1 w2 w3 z1 z2 z3 cs) (jR N i w1 w2 w3 z1 z2 z3 cs) (.exit 0) (jm N (ρ.1) (ρ.2.1) w1 w2 w3 z1 z2 z3 cs (ρ.2.2)) (iO N (ρ.1) (ρ.2.1) w1 w2 w3 z1 z2 z3 cs (ρ.2.2))∧EO N i w1 w2 w3 z1 z2 z3 cs ρ
theorem Oi (N:Nat) (i:Int) (w1 w2 w3 z1 z2 z3:Value) (cs:List Value) (h:vx N i w1 w2 w3 z1 z2 z3 cs):av Tryz.prog (lb 34 eH) (kJ N i w1 w2 w3 z1 z2 z3 cs) (jR N i w1 w2 w3 z1 z2 z3 cs) (.exit 0) (jm N ((fJ N i w1 w2 w3 z1 z2 z3 cs).1) ((fJ N i w1 w2 w3 z1 z2 z3 cs).2.1) w1 w2 w3 z1 z2 z3 cs ((fJ N i w1 w2 w3 z1 z2 z3 cs).2.2)) (iO N ((fJ N i w1 w2 w3 z1 z2 z3 cs).1) ((fJ N i w1 w2 w3 z1 z2 z3 cs).2.1) w1 w2 w3 z1 z2 z3 cs ((fJ N i w1 w2 w3 z1 z2 z3 cs).2.2))∧EO N i w1 w2 w3 z1 z2 z3 cs (fJ N i w1 w2 w3 z1 z2 z3 cs):=Classical.epsilon_spec (aaN N i w1 w2 w3 z1 z2 z3 cs h)
def mO (N:Nat) (i:Int) (w1 w2 w3 z1 z2 z3:Value) (cs:List Value):Bool:= @decide (vx N i w1 w2 w3 z1 z2 z3 cs) (Classical.propDecidable _)
theorem Wl (N:Nat) (i:Int) (w1 w2 w3 z1 z2 z3:Value) (cs:List Value) (h:vx N i w1 w2 w3 z1 z2 z3 cs):mO N i w1 w2 w3 z1 z2 z3 cs=true:= @decide_eq_true _ (Classical.propDecidable _) h
theorem agp (T:List AV) (H:Hp) (e:Ex) (J:List AV) (I:Hp) (h:Hu mO fJ T H=some (true,e,J,I)):V.Ends Tryz.prog false 0 0 (.loop (lb 34 eH)) T H e J I:=by
 unfold Hu at h
 split at h
 ·rename_i N i w1 w2 w3 z1 z2 z3 cs Z ab aE a1 U
  rw [Bool.cond_eq_ite] at h
  split at h
  ·rename_i M
   rw [beq_iff_eq] at M
   simp only [Option.some.injEq,Prod.mk.injEq,Bool.and_eq_true,decide_eq_true_eq] at h
   obtain ⟨k1,rfl,rfl,rfl⟩:=h
   have a7:= @of_decide_eq_true _ (Classical.propDecidable _) k1
   refine Ends.pre (Oi N i w1 w2 w3 z1 z2 z3 cs a7).1.ends (fun α B w D bx a6=>bq M (fun p O y G=> ?_) a6)
   simp only [List.mem_cons,List.not_mem_nil,or_false] at O
   rcases O with rfl | rfl | rfl | rfl | rfl
   ·rw [Z] at G;exact G
   ·rw [ab] at G;exact G
   ·rw [aE] at G;exact G
   ·rw [a1] at G;exact G
   ·rw [U] at G;exact G
  ·cases h
 ·cases h
theorem J6 {L:aC} (h:aB Tryz.prog L):aB Tryz.prog (q9 mO fJ L):=h.bz TJ agp
abbrev qk:List Bool:= [false,true,false,true,true,true,true,true,true,true]
def qE (N:Nat) (i:Int) (w1 w2 w3 z1 z2 z3:Value) (cs:List Value):List AV:=ar 121 [(6, .ptr 0 0),(7, .ptr 1 0),(8, .sl false 27 2 0 N),(9, .sl true 27 3 0 0),(10, .val (.int .i64 i))]
def pM (N:Nat) (i:Int) (w1 w2 w3 z1 z2 z3:Value) (cs:List Value):Hp:= [.row (.cells [.val w1,.val w2,.val w3]) 27 .live, .row (.cells [.val z1,.val z2,.val z3]) 27 .live, .row (.vals cs) 27 .live, .row (.cells []) 27 .live]
theorem TI:aH Tryz.prog 34 qk=some (.loop (lb 34 qk)):=by kernel_rfl
def vw (N:Nat) (i:Int) (w1 w2 w3 z1 z2 z3:Value) (cs:List Value):Prop:=i=0∧cL N cs w1 w2 w3 z1 z2 z3∧bn (qt cs) (rv w1 w2 w3) (rv z1 z2 z3) N= []
def EN (N:Nat) (i:Int) (w1 w2 w3 z1 z2 z3:Value) (cs:List Value) (ρ:Int):Prop:=True
theorem aaM (N:Nat) (i:Int) (w1 w2 w3 z1 z2 z3:Value) (cs:List Value) (h:vw N i w1 w2 w3 z1 z2 z3 cs):∃ ρ:Int,av Tryz.prog (lb 34 qk) (qE N i w1 w2 w3 z1 z2 z3 cs) (pM N i w1 w2 w3 z1 z2 z3 cs) (.exit 0) (qE N ρ w1 w2 w3 z1 z2 z3 cs) (pM N ρ w1 w2 w3 z1 z2 z3 cs)∧EN N i w1 w2 w3 z1 z2 z3 cs ρ:=by
 obtain ⟨rfl,G,I⟩:=h
 exact ⟨(N:Int),abB G I N 0 (by omega),trivial⟩
def Ht (I:Nat→Int→Value→Value→Value→Value→Value→Value→List Value→Bool) (G:Nat→Int→Value→Value→Value→Value→Value→Value→List Value→Int) (T:List AV) (H:Hp):Option (Bool×Ex×List AV×Hp):=
 match al T 6,al T 7,al T 8,al T 9,al T 10,H with
 | .ptr 0 0, .ptr 1 0, .sl false 27 2 0 N, .sl true 27 3 0 0, .val (.int .i64 i), [.row (.cells [.val w1,.val w2,.val w3]) 27 .live, .row (.cells [.val z1,.val z2,.val z3]) 27 .live, .row (.vals cs) 27 .live, .row (.cells []) 27 .live]=>bif T.length==121 then some (I N i w1 w2 w3 z1 z2 z3 cs, .exit 0,qE N ((G N i w1 w2 w3 z1 z2 z3 cs)) w1 w2 w3 z1 z2 z3 cs,pM N ((G N i w1 w2 w3 z1 z2 z3 cs)) w1 w2 w3 z1 z2 z3 cs) else none
 | _,_,_,_,_,_=>none
abbrev JK:Type:=Nat→Int→Value→Value→Value→Value→Value→Value→List Value→Bool
abbrev Jb:Type:=Nat→Int→Value→Value→Value→Value→Value→Value→List Value→Int
def Cj (G:JK) (I:Jb) (L:aC):aC:=bp 0 34 qk [6,7,8,9,10] (Ht G I) L
def sd (N:Nat) (i:Int) (w1 w2 w3 z1 z2 z3:Value) (cs:List Value):Int:=Classical.epsilon fun ρ=>av Tryz.prog (lb 34 qk) (qE N i w1 w2 w3 z1 z2 z3 cs) (pM N i w1 w2 w3 z1 z2 z3 cs) (.exit 0) (qE N (ρ) w1 w2 w3 z1 z2 z3 cs) (pM N (ρ) w1 w2 w3 z1 z2 z3 cs)∧EN N i w1 w2 w3 z1 z2 z3 cs ρ
theorem acr (N:Nat) (i:Int) (w1 w2 w3 z1 z2 z3:Value) (cs:List Value) (h:vw N i w1 w2 w3 z1 z2 z3 cs):av Tryz.prog (lb 34 qk) (qE N i w1 w2 w3 z1 z2 z3 cs) (pM N i w1 w2 w3 z1 z2 z3 cs) (.exit 0) (qE N ((sd N i w1 w2 w3 z1 z2 z3 cs)) w1 w2 w3 z1 z2 z3 cs) (pM N ((sd N i w1 w2 w3 z1 z2 z3 cs)) w1 w2 w3 z1 z2 z3 cs)∧EN N i w1 w2 w3 z1 z2 z3 cs (sd N i w1 w2 w3 z1 z2 z3 cs):=Classical.epsilon_spec (aaM N i w1 w2 w3 z1 z2 z3 cs h)
def tO (N:Nat) (i:Int) (w1 w2 w3 z1 z2 z3:Value) (cs:List Value):Bool:= @decide (vw N i w1 w2 w3 z1 z2 z3 cs) (Classical.propDecidable _)
theorem Wk (N:Nat) (i:Int) (w1 w2 w3 z1 z2 z3:Value) (cs:List Value) (h:vw N i w1 w2 w3 z1 z2 z3 cs):tO N i w1 w2 w3 z1 z2 z3 cs=true:= @decide_eq_true _ (Classical.propDecidable _) h
theorem ago (T:List AV) (H:Hp) (e:Ex) (J:List AV) (I:Hp) (h:Ht tO sd T H=some (true,e,J,I)):V.Ends Tryz.prog false 0 0 (.loop (lb 34 qk)) T H e J I:=by
 unfold Ht at h
 split at h
 ·rename_i N i w1 w2 w3 z1 z2 z3 cs Z ab aE a1 U
  rw [Bool.cond_eq_ite] at h
  split at h
  ·rename_i M
   rw [beq_iff_eq] at M
   simp only [Option.some.injEq,Prod.mk.injEq,Bool.and_eq_true,decide_eq_true_eq] at h
   obtain ⟨k1,rfl,rfl,rfl⟩:=h
   have a7:= @of_decide_eq_true _ (Classical.propDecidable _) k1
   refine Ends.pre (acr N i w1 w2 w3 z1 z2 z3 cs a7).1.ends (fun α B w D bx a6=>bq M (fun p O y G=> ?_) a6)
   simp only [List.mem_cons,List.not_mem_nil,or_false] at O
   rcases O with rfl | rfl | rfl | rfl | rfl
   ·rw [Z] at G;exact G
   ·rw [ab] at G;exact G
   ·rw [aE] at G;exact G
   ·rw [a1] at G;exact G
   ·rw [U] at G;exact G
  ·cases h
 ·cases h
theorem Si {L:aC} (h:aB Tryz.prog L):aB Tryz.prog (Cj tO sd L):=h.bz TI ago
end
end Go.Proofs.YtamcpiicmfielaaGreat.L
namespace Go.Proofs.YtamcpiicmfielaaGreat.L
open Go Go.V Go.RowKit Go.Proofs.YtamcpiicmfielaaGreat.Sp
open Go.Proofs (Tryz.prog)
noncomputable section
abbrev nh:List Bool:= [false,true,false,true,true,true,true,true,true,true,true,true]
def jr (m k:Nat) (i:Int) (us G:List Value):List AV:=ar 121 [(9, .sl false 27 0 0 m),(11, .sl false 52 1 0 k),(12, .val (.int .i64 i))]
def iS (m k:Nat) (i:Int) (us G:List Value):Hp:= [.row (.vals us) 27 .live, .row (.vals G) 52 .live]
theorem Vs:aH Tryz.prog 34 (false :: nh)=some (lb 34 nh):=by kernel_rfl
theorem Pb (m k:Nat) (i:Int) (us G:List Value):letI I:=(us.getD (0+(i - 1).toNat*3+1+1) undef);letI J:=(us.getD (0+(i - 1).toNat*3+1) undef);letI M:=(us.getD (0+i.toNat*3+1+1) undef);letI O:=(us.getD (0+(i - 1).toNat*3) undef);letI U:=(us.getD (0+i.toNat*3+1) undef);letI Z:=(us.getD (0+i.toNat*3) undef);
  (aO Tryz.prog mE 34 [9,11,12] (lb 34 nh) (false :: nh) (jr m k i us G) (iS m k i us G)=(bif decide (i < (↑m:Int)) then (bif ai IntKind.i64 (i - 1) then (bif decide (0≤i - 1)&&decide (i - 1 < (↑m:Int)) then (bif decide (0+(i - 1).toNat*3 < us.length) then (bif decide (0+(i - 1).toNat*3+1 < us.length) then (bif decide (0+(i - 1).toNat*3+1+1 < us.length) then (bif decide (0≤i)&&decide (i < (↑m:Int)) then (bif decide (0+i.toNat*3 < us.length) then (bif decide (0+i.toNat*3+1 < us.length) then (bif decide (0+i.toNat*3+1+1 < us.length) then (bif [AV.val O,AV.val J,AV.val I].all bB then (bif [AV.val Z,AV.val U,AV.val M].all bB then (bif [AV.val O,AV.val J,AV.val I,AV.val Z,AV.val U,AV.val M].all bB then (bif decide (k*6≤(ao.vals G).len)&&aU Tryz.prog (k+1) 52&&((dC (intKind Tryz.prog 52) [AV.val O,AV.val J,AV.val I,AV.val Z,AV.val U,AV.val M]).sub 0 6).bk then (bif ai IntKind.i64 (i+1) then some (.normal,ar 121 [(9,(.sl false 27 0 0 m)),(11,(.sl false 52 1 0 (k+1))),(12,(.val (.int .i64 (i+1))))], [(.row (.vals us) 27 .live),(.row (.vals ((List.take (k*6) G) ++ ([O,J,I,Z,U,M]:List Value))) 52 .live)]) else none) else none) else none) else none) else none) else none) else none) else none) else none) else none) else none) else none) else none) else none) else some ((.exit 2),ar 121 [(9,(.sl false 27 0 0 m)),(11,(.sl false 52 1 0 k)),(12,(.val (.int .i64 i)))], [(.row (.vals us) 27 .live),(.row (.vals G) 52 .live)]))):=by kernel_rfl
theorem Qa {m k:Nat} {i:Int} {us G:List Value} {e:Ex} {T:List AV} {H:Hp} (h:aO Tryz.prog mE 34 [9,11,12] (lb 34 nh) (false :: nh) (jr m k i us G) (iS m k i us G)=some (e,T,H)):V.Ends Tryz.prog false 0 0 (lb 34 nh) (jr m k i us G) (iS m k i us G) e T H:=
 bF (aJ _) aN mixed Vs h
theorem ac1 {m:Nat} {us:List Value} (h:lO m us) (j:Nat) (aE:j+1 < m):V.Ends Tryz.prog false 0 0 (lb 34 nh) (jr m j ((j+1:Nat):Int) us (bO (qt us) j)) (iS m j ((j+1:Nat):Int) us (bO (qt us) j)) .normal (jr m (j+1) ((j+1+1:Nat):Int) us (bO (qt us) (j+1))) (iS m (j+1) ((j+1+1:Nat):Int) us (bO (qt us) (j+1))):=by
 have a6:=h.lim
 have a1:=h.len
 obtain ⟨I,J,M⟩:=h.can j (by omega)
 obtain ⟨O,U,Z⟩:=h.can (j+1) aE
 have G:=Pb m j ((j+1:Nat):Int) us (bO (qt us) j)
 have e1:((j+1:Nat):Int) - 1=(j:Int):=by omega
 have e0:(ao.vals (bO (qt us) j)).len=j*6:=qo _ j
 have ab:List.take (j*6) (bO (qt us) j)=bO (qt us) j:=List.take_of_length_le (Nat.le_of_eq (qo _ j))
 simp only [e1,Int.toNat_natCast,Nat.zero_add,I,J,M,O,U,Z,e0,ab,Nat.le_refl,decide_true,Bool.true_and,ma,zk,En] at G
 rw [dT (show ((j+1:Nat):Int) < (m:Int) by omega),aM (z:=(j:Int)) (by omega),dT (show (0:Int)≤(j:Int) by omega),dT (show (j:Int) < (m:Int) by omega),dT (show j*3 < us.length by omega),dT (show j*3+1 < us.length by omega),dT (show j*3+1+1 < us.length by omega),
  dT (show (0:Int)≤((j+1:Nat):Int) by omega),dT (show (j+1)*3 < us.length by omega),dT (show (j+1)*3+1 < us.length by omega),dT (show (j+1)*3+1+1 < us.length by omega),OW (m:=j+1) (by omega),aM (z:=((j+1:Nat):Int)+1) (by omega)] at G
 exact Qa G
theorem ac0 {m:Nat} {us:List Value} (h:lO m us) (k:Nat):∀ j,m=j+1+k→av Tryz.prog (lb 34 nh) (jr m j ((j+1:Nat):Int) us (bO (qt us) j)) (iS m j ((j+1:Nat):Int) us (bO (qt us) j)) (.exit 2) (jr m (m - 1) (m:Int) us (bO (qt us) (m - 1))) (iS m (m - 1) (m:Int) us (bO (qt us) (m - 1))):=by
 induction k with
 | zero=>
  intro j G
  have:m=j+1:=by omega
  subst this
  refine .last (Qa ?_) (by intro h;cases h)
  rw [Pb,dF (show ¬ ((j+1:Nat):Int) < ((j+1:Nat):Int) by omega)]
  rfl
 | succ k I=>
  intro j G
  exact .more (ac1 h j (by omega)) (I (j+1) (by omega))
abbrev fh:List Bool:= [false,true,false,true,true,true,true,true,true,true,true,true]
def oO (m:Nat) (i:Int) (us:List Value):List AV:=ar 121 [(9, .sl false 27 0 0 m),(11, .sl true 52 1 0 0),(12, .val (.int .i64 i))]
def ow (m:Nat) (i:Int) (us:List Value):Hp:= [.row (.vals us) 27 .live, .row (.cells []) 52 .live]
theorem TO:aH Tryz.prog 34 fh=some (.loop (lb 34 fh)):=by kernel_rfl
theorem Vt:aH Tryz.prog 34 (false :: fh)=some (lb 34 fh):=by kernel_rfl
theorem Pc (m:Nat) (i:Int) (us:List Value):letI G:=(us.getD (0+(i - 1).toNat*3+1+1) undef);letI I:=(us.getD (0+(i - 1).toNat*3+1) undef);letI J:=(us.getD (0+i.toNat*3+1+1) undef);letI M:=(us.getD (0+(i - 1).toNat*3) undef);letI O:=(us.getD (0+i.toNat*3+1) undef);letI U:=(us.getD (0+i.toNat*3) undef);
  (aO Tryz.prog mE 34 [9,11,12] (lb 34 fh) (false :: fh) (oO m i us) (ow m i us)=(bif decide (i < (↑m:Int)) then (bif ai IntKind.i64 (i - 1) then (bif decide (0≤i - 1)&&decide (i - 1 < (↑m:Int)) then (bif decide (0+(i - 1).toNat*3 < us.length) then (bif decide (0+(i - 1).toNat*3+1 < us.length) then (bif decide (0+(i - 1).toNat*3+1+1 < us.length) then (bif decide (0≤i)&&decide (i < (↑m:Int)) then (bif decide (0+i.toNat*3 < us.length) then (bif decide (0+i.toNat*3+1 < us.length) then (bif decide (0+i.toNat*3+1+1 < us.length) then (bif [AV.val M,AV.val I,AV.val G].all bB then (bif [AV.val U,AV.val O,AV.val J].all bB then (bif [AV.val M,AV.val I,AV.val G,AV.val U,AV.val O,AV.val J].all bB then (bif ((dC (intKind Tryz.prog 52) [AV.val M,AV.val I,AV.val G,AV.val U,AV.val O,AV.val J]).sub 0 6).bk then (bif ai IntKind.i64 (i+1) then some (.normal,ar 121 [(9,(.sl false 27 0 0 m)),(11,(.sl false 52 1 0 1)),(12,(.val (.int .i64 (i+1))))], [(.row (.vals us) 27 .live),(.row (.cells [(.val M),(.val I),(.val G),(.val U),(.val O),(.val J)]) 52 .live)]) else none) else none) else none) else none) else none) else none) else none) else none) else none) else none) else none) else none) else none) else none) else some ((.exit 2),ar 121 [(9,(.sl false 27 0 0 m)),(11,(.sl true 52 1 0 0)),(12,(.val (.int .i64 i)))], [(.row (.vals us) 27 .live),(.row (.cells []) 52 .live)]))):=by kernel_rfl
theorem Qb {m:Nat} {i:Int} {us:List Value} {e:Ex} {T:List AV} {H:Hp} (h:aO Tryz.prog mE 34 [9,11,12] (lb 34 fh) (false :: fh) (oO m i us) (ow m i us)=some (e,T,H)):V.Ends Tryz.prog false 0 0 (lb 34 fh) (oO m i us) (ow m i us) e T H:=
 bF (aJ _) aN mixed Vt h
def Ms (us:List Value) (x y:Rat):Hp:= [.row (.vals us) 27 .live, .row (.cells [.val (.bool (af.qn x)), .val (.string (af.qs x)), .val (.string (af.qd x)), .val (.bool (af.qn y)), .val (.string (af.qs y)), .val (.string (af.qd y))]) 52 .live]
theorem Zg {m:Nat} {i:Int} {us:List Value} :bC Tryz.prog (Ms us (qt us 0) (qt us 1)) (iS m 1 i us (bO (qt us) 1)):=bC.cons (fM.refl _) (bC.cons ⟨zY rfl,rfl,rfl⟩ bC.nil)
theorem ac2 {m:Nat} {us:List Value} (h:lO m us) (a6:1 < m):av Tryz.prog (lb 34 fh) (oO m 1 us) (ow m 1 us) (.exit 2) (jr m (m - 1) (m:Int) us (bO (qt us) (m - 1))) (iS m (m - 1) (m:Int) us (bO (qt us) (m - 1))):=by
 have a1:=h.lim
 have aE:=h.len
 obtain ⟨I,J,M⟩:=h.can 0 (by omega)
 obtain ⟨O,U,Z⟩:=h.can 1 (by omega)
 have G:=Pc m 1 us
 have ab:=ac0 h (m - 2) 1 (by omega)
 refine .more (Qb (T:=jr m 1 ((1+1:Nat):Int) us (bO (qt us) 1)) (H:=Ms us (qt us 0) (qt us 1)) ?_) (ab.gJ Zg)
 simp only [show ((1:Int) - 1)=0 from rfl,Int.toNat_zero,show (1:Int).toNat=1 from rfl,Nat.zero_mul,Nat.one_mul,Nat.zero_add] at G I J M O U Z
 simp only [I,J,M,O,U,Z,ma,zk,En] at G
 rw [dT (show (1:Int) < (m:Int) by omega),dT (show (0:Int) < (m:Int) by omega),dT (show 0 < us.length by omega),dT (show 1 < us.length by omega),dT (show 1+1 < us.length by omega),
  dT (show 3 < us.length by omega),dT (show 3+1 < us.length by omega),dT (show 3+1+1 < us.length by omega)] at G
 exact G
def vC (m:Nat) (i:Int) (us:List Value):Prop:=i=1∧1 < m∧lO m us
def EU (m:Nat) (i:Int) (us:List Value) (ρ:Nat×Int×List Value):Prop:=ρ.1=m - 1∧ρ.2.2=bO (qt us) (m - 1)
theorem aaS (m:Nat) (i:Int) (us:List Value) (h:vC m i us):∃ ρ:Nat×Int×List Value,av Tryz.prog (lb 34 fh) (oO m i us) (ow m i us) (.exit 2) (jr m ρ.1 ρ.2.1 us ρ.2.2) (iS m ρ.1 ρ.2.1 us ρ.2.2)∧EU m i us ρ:=by
 obtain ⟨rfl,G,I⟩:=h
 exact ⟨(m - 1,(m:Int),_),ac2 I G,rfl,rfl⟩
def Hz (I:Nat→Int→List Value→Bool) (G:Nat→Int→List Value→Nat×Int×List Value) (T:List AV) (H:Hp):Option (Bool×Ex×List AV×Hp):=
 match al T 9,al T 11,al T 12,H with
 | .sl false 27 0 0 m, .sl true 52 1 0 0, .val (.int .i64 i), [.row (.vals us) 27 .live, .row (.cells []) 52 .live]=>bif T.length==121 then some (I m i us, .exit 2,jr m ((G m i us).1) ((G m i us).2.1) us ((G m i us).2.2),iS m ((G m i us).1) ((G m i us).2.1) us ((G m i us).2.2)) else none
 | _,_,_,_=>none
abbrev JO:Type:=Nat→Int→List Value→Bool
abbrev Jf:Type:=Nat→Int→List Value→Nat×Int×List Value
def xe (G:JO) (I:Jf) (L:aC):aC:=bp 0 34 fh [9,11,12] (Hz G I) L
def kp (m:Nat) (i:Int) (us:List Value):Nat×Int×List Value:=Classical.epsilon fun ρ=>av Tryz.prog (lb 34 fh) (oO m i us) (ow m i us) (.exit 2) (jr m (ρ.1) (ρ.2.1) us (ρ.2.2)) (iS m (ρ.1) (ρ.2.1) us (ρ.2.2))∧EU m i us ρ
theorem Om (m:Nat) (i:Int) (us:List Value) (h:vC m i us):av Tryz.prog (lb 34 fh) (oO m i us) (ow m i us) (.exit 2) (jr m ((kp m i us).1) ((kp m i us).2.1) us ((kp m i us).2.2)) (iS m ((kp m i us).1) ((kp m i us).2.1) us ((kp m i us).2.2))∧EU m i us (kp m i us):=Classical.epsilon_spec (aaS m i us h)
def rp (m:Nat) (i:Int) (us:List Value):Bool:= @decide (vC m i us) (Classical.propDecidable _)
theorem Wp (m:Nat) (i:Int) (us:List Value) (h:vC m i us):rp m i us=true:= @decide_eq_true _ (Classical.propDecidable _) h
theorem agu (T:List AV) (H:Hp) (e:Ex) (J:List AV) (I:Hp) (h:Hz rp kp T H=some (true,e,J,I)):V.Ends Tryz.prog false 0 0 (.loop (lb 34 fh)) T H e J I:=by
 unfold Hz at h
 split at h
 ·rename_i m i us ab U Z
  rw [Bool.cond_eq_ite] at h
  split at h
  ·rename_i M
   rw [beq_iff_eq] at M
   simp only [Option.some.injEq,Prod.mk.injEq,Bool.and_eq_true,decide_eq_true_eq] at h
   obtain ⟨k1,rfl,rfl,rfl⟩:=h
   have a1:= @of_decide_eq_true _ (Classical.propDecidable _) k1
   refine Ends.pre (Om m i us a1).1.ends (fun α B w D a6 aE=>bq M (fun p O y G=> ?_) aE)
   simp only [List.mem_cons,List.not_mem_nil,or_false] at O
   rcases O with rfl | rfl | rfl
   ·rw [ab] at G;exact G
   ·rw [U] at G;exact G
   ·rw [Z] at G;exact G
  ·cases h
 ·cases h
theorem Sq {L:aC} (h:aB Tryz.prog L):aB Tryz.prog (xe rp kp L):=h.bz TO agu
end
end Go.Proofs.YtamcpiicmfielaaGreat.L
namespace Go.Proofs.YtamcpiicmfielaaGreat.L
open Go Go.V Go.RowKit Go.Proofs.YtamcpiicmfielaaGreat.Sp
open Go.Proofs (Tryz.prog)
noncomputable section
abbrev ql:List Bool:= [false,true,false,true,true,true,true,true,true,true,true,true]
def qF (m:Nat) (i:Int) (us:List Value):List AV:=ar 121 [(9, .sl false 27 0 0 m),(11, .sl true 52 1 0 0),(12, .val (.int .i64 i))]
def pN (m:Nat) (i:Int) (us:List Value):Hp:= [.row (.vals us) 27 .live, .row (.cells []) 52 .live]
theorem TN:aH Tryz.prog 34 ql=some (.loop (lb 34 ql)):=by kernel_rfl
def vA (m:Nat) (i:Int) (us:List Value):Prop:=i=1∧m=1
def ET (m:Nat) (i:Int) (us:List Value) (ρ:Int):Prop:=True
theorem aaR (m:Nat) (i:Int) (us:List Value) (h:vA m i us):∃ ρ:Int,av Tryz.prog (lb 34 ql) (qF m i us) (pN m i us) (.exit 2) (qF m ρ us) (pN m ρ us)∧ET m i us ρ:=by
 obtain ⟨rfl,rfl⟩:=h
 refine ⟨1, .last (Qb ?_) (by intro h;cases h),trivial⟩
 rw [show aO Tryz.prog mE 34 [9,11,12] (lb 34 fh) (false :: fh) (oO 1 1 us) (ow 1 1 us)=_ from Pc 1 1 us,dF (show ¬ (1:Int) < ((1:Nat):Int) by omega)]
 rfl
def Hy (I:Nat→Int→List Value→Bool) (G:Nat→Int→List Value→Int) (T:List AV) (H:Hp):Option (Bool×Ex×List AV×Hp):=
 match al T 9,al T 11,al T 12,H with
 | .sl false 27 0 0 m, .sl true 52 1 0 0, .val (.int .i64 i), [.row (.vals us) 27 .live, .row (.cells []) 52 .live]=>bif T.length==121 then some (I m i us, .exit 2,qF m ((G m i us)) us,pN m ((G m i us)) us) else none
 | _,_,_,_=>none
abbrev JN:Type:=Nat→Int→List Value→Bool
abbrev Je:Type:=Nat→Int→List Value→Int
def Cm (G:JN) (I:Je) (L:aC):aC:=bp 0 34 ql [9,11,12] (Hy G I) L
def sf (m:Nat) (i:Int) (us:List Value):Int:=Classical.epsilon fun ρ=>av Tryz.prog (lb 34 ql) (qF m i us) (pN m i us) (.exit 2) (qF m (ρ) us) (pN m (ρ) us)∧ET m i us ρ
theorem acs (m:Nat) (i:Int) (us:List Value) (h:vA m i us):av Tryz.prog (lb 34 ql) (qF m i us) (pN m i us) (.exit 2) (qF m ((sf m i us)) us) (pN m ((sf m i us)) us)∧ET m i us (sf m i us):=Classical.epsilon_spec (aaR m i us h)
def tR (m:Nat) (i:Int) (us:List Value):Bool:= @decide (vA m i us) (Classical.propDecidable _)
theorem Wo (m:Nat) (i:Int) (us:List Value) (h:vA m i us):tR m i us=true:= @decide_eq_true _ (Classical.propDecidable _) h
theorem agt (T:List AV) (H:Hp) (e:Ex) (J:List AV) (I:Hp) (h:Hy tR sf T H=some (true,e,J,I)):V.Ends Tryz.prog false 0 0 (.loop (lb 34 ql)) T H e J I:=by
 unfold Hy at h
 split at h
 ·rename_i m i us ab U Z
  rw [Bool.cond_eq_ite] at h
  split at h
  ·rename_i M
   rw [beq_iff_eq] at M
   simp only [Option.some.injEq,Prod.mk.injEq,Bool.and_eq_true,decide_eq_true_eq] at h
   obtain ⟨k1,rfl,rfl,rfl⟩:=h
   have a1:= @of_decide_eq_true _ (Classical.propDecidable _) k1
   refine Ends.pre (acs m i us a1).1.ends (fun α B w D a6 aE=>bq M (fun p O y G=> ?_) aE)
   simp only [List.mem_cons,List.not_mem_nil,or_false] at O
   rcases O with rfl | rfl | rfl
   ·rw [ab] at G;exact G
   ·rw [U] at G;exact G
   ·rw [Z] at G;exact G
  ·cases h
 ·cases h
theorem Sn {L:aC} (h:aB Tryz.prog L):aB Tryz.prog (Cm tR sf L):=h.bz TN agt
def nO (C:Cg) (G:Qg):FuncId→TF:=aw 19 (mz C) (aw 48 (cZ (oU G)) aK)
noncomputable def pS (C:Cg) (G:Qg) (p:Nat) (ts ps:List Value) (r:Nat) (us qs:List Value) (K:Value→Value→Value→Value→Value→Value→Option AV):Option AV:=letI J:=(↑(r+(1:Nat)):Int);letI I:=(J - (1:Int));letI a1:=((↑(p+(1:Nat)):Int) - (1:Int));letI M:=(ag (3:Nat) (p+(1:Nat)) (ad (3:Nat) ts));letI b4:=(cC (dC (intKind Tryz.prog (52:Nat)) [].flatten) [] (0:Nat) (6:Nat));letI U:=(us.getD (I.toNat*(3:Nat)+(1:Nat)) undef);letI Z:=(us.getD (I.toNat*(3:Nat)+(2:Nat)) undef);letI ab:=(ts.getD (a1.toNat*(3:Nat)+(1:Nat)) undef);letI aE:=(ts.getD (a1.toNat*(3:Nat)+(2:Nat)) undef);letI O:=((0:Nat)+(p+(1:Nat)));letI b3:=((0:Nat)+(p+(1:Nat))+(r+(1:Nat)));letI a6:=(ag (3:Nat) (r+(1:Nat)) (ad (3:Nat) us));letI a7:=(us.getD (I.toNat*(3:Nat)+(0:Nat)) undef);letI bx:=(ts.getD (a1.toNat*(3:Nat)+(0:Nat)) undef);letI bD:=(us.getD (1:Nat) undef);letI b0:=(us.getD (2:Nat) undef);letI b1:=(ts.getD (1:Nat) undef);letI b2:=(ts.getD (2:Nat) undef);(bif an (3:Nat) (p+(1:Nat)) (ad (3:Nat) ts)&&an (6:Nat) (p+(1:Nat)) (ad (6:Nat) ps)&&C.ko (p+(1:Nat)) M (p+(1:Nat)) (ag (6:Nat) (p+(1:Nat)) (ad (6:Nat) ps)) then (bif !decide (C.ck (p+(1:Nat)) M (p+(1:Nat)) (ag (6:Nat) (p+(1:Nat)) (ad (6:Nat) ps))=(0:Int)) then some (.tup [(.lst true 52 0 b4),(.val (.int .i64 1))]) else (bif an (3:Nat) (r+(1:Nat)) (ad (3:Nat) us)&&an (6:Nat) (r+(1:Nat)) (ad (6:Nat) qs)&&C.ko (r+(1:Nat)) a6 (r+(1:Nat)) (ag (6:Nat) (r+(1:Nat)) (ad (6:Nat) qs)) then (bif !decide (C.ck (r+(1:Nat)) a6 (r+(1:Nat)) (ag (6:Nat) (r+(1:Nat)) (ad (6:Nat) qs))=(0:Int)) then some (.tup [(.lst true 52 0 b4),(.val (.int .i64 1))]) else (bif ai IntKind.i64 a1 then (bif decide ((0:Int)≤(↑(p+(1:Nat)):Int) - (1:Int))&&decide ((↑(p+(1:Nat)):Int) - (1:Int) < (↑(p+(1:Nat)):Int)) then (bif [(fun q=>ad (3:Nat) ts (Int.toNat (0:Int)) ((0:Nat)+q)) (nat_lit 0),(fun q=>ad (3:Nat) ts (Int.toNat (0:Int)) ((0:Nat)+q)) (nat_lit 1),(fun q=>ad (3:Nat) ts (Int.toNat (0:Int)) ((0:Nat)+q)) (nat_lit 2)].all bB then (bif [(fun q=>ad (3:Nat) ts a1.toNat ((0:Nat)+q)) (nat_lit 0),(fun q=>ad (3:Nat) ts a1.toNat ((0:Nat)+q)) (nat_lit 1),(fun q=>ad (3:Nat) ts a1.toNat ((0:Nat)+q)) (nat_lit 2)].all bB then (bif aY (us.getD (0:Nat) undef) bD b0&&aY (ts.getD (0:Nat) undef) b1 b2&&(G.aV (ah bD) (ah b0)&&G.aV (ah b1) (ah b2)) then (bif decide ((0:Int) < G.cq (G.qv (az (us.getD (0:Nat) undef)) (ah bD) (ah b0)) (G.qv (az (ts.getD (0:Nat) undef)) (ah b1) (ah b2))) then (bif [(fun q=>ad (3:Nat) us (Int.toNat (0:Int)) ((0:Nat)+q)) (nat_lit 0),(fun q=>ad (3:Nat) us (Int.toNat (0:Int)) ((0:Nat)+q)) (nat_lit 1),(fun q=>ad (3:Nat) us (Int.toNat (0:Int)) ((0:Nat)+q)) (nat_lit 2)].all bB then (bif ai IntKind.i64 I then (bif decide ((0:Int)≤J - (1:Int))&&decide (J - (1:Int) < J) then (bif aY a7 U Z&&aY bx ab aE&&(G.aV (ah U) (ah Z)&&G.aV (ah ab) (ah aE)) then (bif decide (G.cq (G.qv (az a7) (ah U) (ah Z)) (G.qv (az bx) (ah ab) (ah aE)) < (0:Int)) then (bif ai IntKind.i64 I then (bif decide ((0:Int)≤J - (1:Int))&&decide (J - (1:Int) < J) then (bif [(fun q=>ad (3:Nat) us I.toNat ((0:Nat)+q)) (nat_lit 0),(fun q=>ad (3:Nat) us I.toNat ((0:Nat)+q)) (nat_lit 1),(fun q=>ad (3:Nat) us I.toNat ((0:Nat)+q)) (nat_lit 2)].all bB then (bif an (3:Nat) (p+(1:Nat)) (ad (3:Nat) ts) then (bif aU Tryz.prog O (27:Nat)&&(ao.vals M).bk then (bif an (3:Nat) (r+(1:Nat)) (ad (3:Nat) us) then (bif decide (O*(3:Nat)≤(ao.vals M).len)&&aU Tryz.prog b3 (27:Nat)&&(ao.vals a6).bk then (K (us.getD (0:Nat) undef) bD b0 a7 U Z) else none) else none) else none) else none) else none) else none) else none) else (bif an (3:Nat) (p+(1:Nat)) (ad (3:Nat) ts) then (bif aU Tryz.prog O (27:Nat)&&(ao.vals M).bk then (bif an (3:Nat) (r+(1:Nat)) (ad (3:Nat) us) then (bif decide (O*(3:Nat)≤(ao.vals M).len)&&aU Tryz.prog b3 (27:Nat)&&(ao.vals a6).bk then (K (us.getD (0:Nat) undef) bD b0 bx ab aE) else none) else none) else none) else none)) else none) else none) else none) else none) else (bif ai IntKind.i64 I then (bif decide ((0:Int)≤J - (1:Int))&&decide (J - (1:Int) < J) then (bif aY a7 U Z&&aY bx ab aE&&(G.aV (ah U) (ah Z)&&G.aV (ah ab) (ah aE)) then (bif decide (G.cq (G.qv (az a7) (ah U) (ah Z)) (G.qv (az bx) (ah ab) (ah aE)) < (0:Int)) then (bif ai IntKind.i64 I then (bif decide ((0:Int)≤J - (1:Int))&&decide (J - (1:Int) < J) then (bif [(fun q=>ad (3:Nat) us I.toNat ((0:Nat)+q)) (nat_lit 0),(fun q=>ad (3:Nat) us I.toNat ((0:Nat)+q)) (nat_lit 1),(fun q=>ad (3:Nat) us I.toNat ((0:Nat)+q)) (nat_lit 2)].all bB then (bif an (3:Nat) (p+(1:Nat)) (ad (3:Nat) ts) then (bif aU Tryz.prog O (27:Nat)&&(ao.vals M).bk then (bif an (3:Nat) (r+(1:Nat)) (ad (3:Nat) us) then (bif decide (O*(3:Nat)≤(ao.vals M).len)&&aU Tryz.prog b3 (27:Nat)&&(ao.vals a6).bk then (K (ts.getD (0:Nat) undef) b1 b2 a7 U Z) else none) else none) else none) else none) else none) else none) else none) else (bif an (3:Nat) (p+(1:Nat)) (ad (3:Nat) ts) then (bif aU Tryz.prog O (27:Nat)&&(ao.vals M).bk then (bif an (3:Nat) (r+(1:Nat)) (ad (3:Nat) us) then (bif decide (O*(3:Nat)≤(ao.vals M).len)&&aU Tryz.prog b3 (27:Nat)&&(ao.vals a6).bk then (K (ts.getD (0:Nat) undef) b1 b2 bx ab aE) else none) else none) else none) else none)) else none) else none) else none)) else none) else none) else none) else none) else none)) else none)) else none)
theorem adC (C:Cg) (G:Qg) (I:BJ) (M:Bn) (J:JO) (O:Jf) (p:Nat) (ts ps:List Value) (r:Nat) (us qs:List Value):aF Tryz.prog ⟨nO C G,au,q9 I M (xe J O aq)⟩ 10 10 34 [aW (p+1) ts (p+1) ps,aW (r+1) us (r+1) qs]=pS C G p ts ps r us qs fun w1 w2 w3 z1 z2 z3=>letI q:=M (0+(p+1)+(r+1)) 0 w1 w2 w3 z1 z2 z3 (List.take ((0+(p+1))*3) (ag 3 (p+1) (ad 3 ts)) ++ ag 3 (r+1) (ad 3 us));letI x:=O q.1 1 q.2.2;bif I (0+(p+1)+(r+1)) 0 w1 w2 w3 z1 z2 z3 (List.take ((0+(p+1))*3) (ag 3 (p+1) (ad 3 ts)) ++ ag 3 (r+1) (ad 3 us)) then (bif J q.1 1 q.2.2 then (bif decide (0+x.1*6≤(ao.vals x.2.2).len) then some (AV.tup [.lst false 52 x.1 (cC (.vals x.2.2) [] 0 6), .val (.int .i64 0)]) else none) else none) else none:=by kernel_rfl
theorem adB (C:Cg) (G:Qg) (I:BJ) (M:Bn) (J:JN) (O:Je) (p:Nat) (ts ps:List Value) (r:Nat) (us qs:List Value):aF Tryz.prog ⟨nO C G,au,q9 I M (Cm J O aq)⟩ 10 10 34 [aW (p+1) ts (p+1) ps,aW (r+1) us (r+1) qs]=pS C G p ts ps r us qs fun w1 w2 w3 z1 z2 z3=>letI q:=M (0+(p+1)+(r+1)) 0 w1 w2 w3 z1 z2 z3 (List.take ((0+(p+1))*3) (ag 3 (p+1) (ad 3 ts)) ++ ag 3 (r+1) (ad 3 us));bif I (0+(p+1)+(r+1)) 0 w1 w2 w3 z1 z2 z3 (List.take ((0+(p+1))*3) (ag 3 (p+1) (ad 3 ts)) ++ ag 3 (r+1) (ad 3 us)) then (bif J q.1 1 q.2.2 then some (AV.tup [.lst true 52 0 (cC (dC (intKind Tryz.prog 52) [].flatten) [] 0 6), .val (.int .i64 0)]) else none) else none:=by kernel_rfl
theorem adA (C:Cg) (G:Qg) (I:JK) (J:Jb) (p:Nat) (ts ps:List Value) (r:Nat) (us qs:List Value):aF Tryz.prog ⟨nO C G,au,Cj I J aq⟩ 10 10 34 [aW (p+1) ts (p+1) ps,aW (r+1) us (r+1) qs]=pS C G p ts ps r us qs fun w1 w2 w3 z1 z2 z3=>bif I (0+(p+1)+(r+1)) 0 w1 w2 w3 z1 z2 z3 (List.take ((0+(p+1))*3) (ag 3 (p+1) (ad 3 ts)) ++ ag 3 (r+1) (ad 3 us)) then some (AV.tup [.lst true 52 0 (cC (dC (intKind Tryz.prog 52) [].flatten) [] 0 6), .val (.int .i64 0)]) else none:=by kernel_rfl
end
end Go.Proofs.YtamcpiicmfielaaGreat.L
namespace Go.Proofs.YtamcpiicmfielaaGreat.L
open Go Go.V Go.RowKit Go.Proofs.YtamcpiicmfielaaGreat.Sp
open Go.Proofs (Tryz.prog)
noncomputable section
abbrev fG:List Bool:= [false,true,false,true,true]
def iq (n:Nat) (ps:List Value) (G:Nat) (I:List Value) (r:Bool) (z i:Int):List AV:=ar 26 [(0, .lst false 52 n (ad 6 ps)),(1, .lst false 52 G (ad 6 I)),(4, .val (.bool r)),(12, .val (.int .i64 z)),(13, .val (.int .i64 i))]
def hZ (n:Nat) (ps:List Value) (G:Nat) (I:List Value) (r:Bool) (z i:Int):Hp:= []
theorem TR:aH Tryz.prog 35 fG=some (.loop (lb 35 fG)):=by kernel_rfl
theorem Vw:aH Tryz.prog 35 (false :: fG)=some (lb 35 fG):=by kernel_rfl
theorem Pe (n:Nat) (ps:List Value) (I:Nat) (G:List Value) (r:Bool) (z i:Int):letI O:=(i.toNat*6+1);letI U:=(i.toNat*6+2);letI aE:=(aG (ah (ps.getD O undef)) (ah (G.getD O undef))&&(aG (ah (ps.getD U undef)) (ah (G.getD U undef))&&true));letI Z:=(i.toNat*6+4);letI ab:=(i.toNat*6+5);letI a1:=(aG (ah (ps.getD Z undef)) (ah (G.getD Z undef))&&(aG (ah (ps.getD ab undef)) (ah (G.getD ab undef))&&true));letI J:=(i.toNat*6+0);letI M:=(i.toNat*6+3);
  (aO Tryz.prog ⟨aK,au,aq⟩ 35 [0,1,4,12,13] (lb 35 fG) (false :: fG) (iq n ps I G r z i) (hZ n ps I G r z i)=(bif decide (i < z) then (bif decide (0≤i)&&decide (i < (↑n:Int)) then (bif decide (0≤i)&&decide (i < (↑I:Int)) then (bif b8 (ps.getD J undef)&&b8 (G.getD J undef) then (bif bb (ps.getD O undef)&&bb (G.getD O undef) then (bif bb (ps.getD U undef)&&bb (G.getD U undef) then (bif b8 (ps.getD M undef)&&b8 (G.getD M undef) then (bif bb (ps.getD Z undef)&&bb (G.getD Z undef) then (bif bb (ps.getD ab undef)&&bb (G.getD ab undef) then (bif bif true then !(az (ps.getD J undef)==az (G.getD J undef)&&aE&&(az (ps.getD M undef)==az (G.getD M undef)&&a1&&true)) else az (ps.getD J undef)==az (G.getD J undef)&&aE&&(az (ps.getD M undef)==az (G.getD M undef)&&a1&&true) then some (.ret,ar 26 [(0,(.lst false 52 n (ad 6 ps))),(1,(.lst false 52 I (ad 6 G))),(4,(.val (.bool false))),(12,(.val (.int .i64 z))),(13,(.val (.int .i64 i)))], []) else (bif ai IntKind.i64 (i+1) then some (.normal,ar 26 [(0,(.lst false 52 n (ad 6 ps))),(1,(.lst false 52 I (ad 6 G))),(4,(.val (.bool r))),(12,(.val (.int .i64 z))),(13,(.val (.int .i64 (i+1))))], []) else none)) else none) else none) else none) else none) else none) else none) else none) else none) else some ((.exit 0),ar 26 [(0,(.lst false 52 n (ad 6 ps))),(1,(.lst false 52 I (ad 6 G))),(4,(.val (.bool r))),(12,(.val (.int .i64 z))),(13,(.val (.int .i64 i)))], []))):=by kernel_rfl
theorem Qe {n:Nat} {ps:List Value} {G:Nat} {I:List Value} {r:Bool} {z i:Int} {e:Ex} {T:List AV} {H:Hp} (h:aO Tryz.prog ⟨aK,au,aq⟩ 35 [0,1,4,12,13] (lb 35 fG) (false :: fG) (iq n ps G I r z i) (hZ n ps G I r z i)=some (e,T,H)):V.Ends Tryz.prog false 0 0 (lb 35 fG) (iq n ps G I r z i) (hZ n ps G I r z i) e T H:=
 bF (aJ _) aN mixed Vw h
theorem adn {r:Bool} {n:Nat} {ps:List Value} (a1:ps.length=n*6) (i:Nat) (hi:i < n) (a6:n≤9223372036854775807) (h:di ps i=true):V.Ends Tryz.prog false 0 0 (lb 35 fG) (iq n ps n ps r (n:Int) i) (hZ n ps n ps r (n:Int) i) .normal (iq n ps n ps r (n:Int) ((i+1:Nat):Int)) (hZ n ps n ps r (n:Int) ((i+1:Nat):Int)):=by
 have G:=Pe n ps n ps r n i
 obtain ⟨ab,aE⟩:=uS h
 obtain ⟨I,J,M⟩:=lU ab
 obtain ⟨O,U,Z⟩:=lU aE
 simp only [Int.toNat_natCast] at G
 rw [dT (show (i:Int) < (n:Int) by omega),dT (show (0:Int)≤(i:Int) by omega),I,J,M,O,U,Z,aM (z:=(i:Int)+1) (by omega)] at G
 simp only [beq_self_eq_true,lG,Bool.and_true,Bool.and_self,Bool.not_true,cond_true,cond_false] at G
 exact Qe G
theorem adm {r:Bool} {n:Nat} {ps:List Value} (G:ps.length=n*6) (I:n≤9223372036854775807) (h:∀ j,j < n→di ps j=true) (k:Nat):∀ i:Nat,n=i+k→av Tryz.prog (lb 35 fG) (iq n ps n ps r (n:Int) i) (hZ n ps n ps r (n:Int) i) (.exit 0) (iq n ps n ps r (n:Int) (n:Int)) (hZ n ps n ps r (n:Int) (n:Int)):=by
 induction k with
 | zero=>
  intro i hi
  have:i=n:=by omega
  subst this
  refine .last (Qe ?_) (by intro h;cases h)
  rw [Pe,dF (show ¬ ((i:Nat):Int) < (i:Int) by omega)]
  rfl
 | succ k J=>
  intro i hi
  exact .more (adn G i (by omega) I (h i (by omega))) (J (i+1) (by omega))
def vF (n:Nat) (ps:List Value) (G:Nat) (I:List Value) (r:Bool) (z i:Int):Prop:=i=0∧z=(n:Int)∧G=n∧I=ps∧ps.length=n*6∧n≤9223372036854775807∧∀ j,j < n→di ps j=true
def EX (n:Nat) (ps:List Value) (G:Nat) (I:List Value) (r:Bool) (z i ρ:Int):Prop:=True
theorem aaV (n:Nat) (ps:List Value) (G:Nat) (I:List Value) (r:Bool) (z i:Int) (h:vF n ps G I r z i):∃ ρ:Int,av Tryz.prog (lb 35 fG) (iq n ps G I r z i) (hZ n ps G I r z i) (.exit 0) (iq n ps G I r z ρ) (hZ n ps G I r z ρ)∧EX n ps G I r z i ρ:=by
 obtain ⟨rfl,rfl,rfl,rfl,J,M,h⟩:=h
 exact ⟨_,adm J M h _ 0 (Nat.zero_add _).symm,trivial⟩
def HD (O:Nat→List Value→Nat→List Value→Bool→Int→Int→Bool) (M:Nat→List Value→Nat→List Value→Bool→Int→Int→Int) (T:List AV) (H:Hp):Option (Bool×Ex×List AV×Hp):=
 match al T 0,al T 1,al T 4,al T 12,al T 13,H with
 | .lst false 52 n I, .lst false 52 G J, .val (.bool r), .val (.int .i64 z), .val (.int .i64 i), []=>bif T.length==26 then some (an 6 n I&&an 6 G J&&O n (ag 6 n I) G (ag 6 G J) r z i, .exit 0,iq n (ag 6 n I) G (ag 6 G J) r z ((M n (ag 6 n I) G (ag 6 G J) r z i)),hZ n (ag 6 n I) G (ag 6 G J) r z ((M n (ag 6 n I) G (ag 6 G J) r z i))) else none
 | _,_,_,_,_,_=>none
abbrev JQ:Type:=Nat→List Value→Nat→List Value→Bool→Int→Int→Bool
abbrev Ji:Type:=Nat→List Value→Nat→List Value→Bool→Int→Int→Int
def Cp (G:JQ) (I:Ji) (L:aC):aC:=bp 0 35 fG [0,1,4,12,13] (HD G I) L
def sh (n:Nat) (ps:List Value) (G:Nat) (I:List Value) (r:Bool) (z i:Int):Int:=Classical.epsilon fun ρ=>av Tryz.prog (lb 35 fG) (iq n ps G I r z i) (hZ n ps G I r z i) (.exit 0) (iq n ps G I r z (ρ)) (hZ n ps G I r z (ρ))∧EX n ps G I r z i ρ
theorem acu (n:Nat) (ps:List Value) (G:Nat) (I:List Value) (r:Bool) (z i:Int) (h:vF n ps G I r z i):av Tryz.prog (lb 35 fG) (iq n ps G I r z i) (hZ n ps G I r z i) (.exit 0) (iq n ps G I r z ((sh n ps G I r z i))) (hZ n ps G I r z ((sh n ps G I r z i)))∧EX n ps G I r z i (sh n ps G I r z i):=Classical.epsilon_spec (aaV n ps G I r z i h)
def yb (n:Nat) (ps:List Value) (G:Nat) (I:List Value) (r:Bool) (z i:Int):Bool:= @decide (vF n ps G I r z i) (Classical.propDecidable _)
theorem Wt (n:Nat) (ps:List Value) (G:Nat) (I:List Value) (r:Bool) (z i:Int) (h:vF n ps G I r z i):yb n ps G I r z i=true:= @decide_eq_true _ (Classical.propDecidable _) h
theorem agx (T:List AV) (H:Hp) (e:Ex) (J:List AV) (I:Hp) (h:HD yb sh T H=some (true,e,J,I)):V.Ends Tryz.prog false 0 0 (.loop (lb 35 fG)) T H e J I:=by
 unfold HD at h
 split at h
 ·rename_i n Z U ab r z i aE a1 bx a6 a7
  rw [Bool.cond_eq_ite] at h
  split at h
  ·rename_i M
   rw [beq_iff_eq] at M
   simp only [Option.some.injEq,Prod.mk.injEq,Bool.and_eq_true,decide_eq_true_eq] at h
   obtain ⟨⟨⟨k1,b0⟩,b1⟩,rfl,rfl,rfl⟩:=h
   have b2:= @of_decide_eq_true _ (Classical.propDecidable _) b1
   refine Ends.pre (acu n (ag 6 n Z) U (ag 6 U ab) r z i b2).1.ends (fun α B w D b3 bD=>bq M (fun p O y G=> ?_) bD)
   simp only [List.mem_cons,List.not_mem_nil,or_false] at O
   rcases O with rfl | rfl | rfl | rfl | rfl
   ·rw [aE] at G;exact lE (by kernel_rfl) k1 G
   ·rw [a1] at G;exact lE (by kernel_rfl) b0 G
   ·rw [bx] at G;exact G
   ·rw [a6] at G;exact G
   ·rw [a7] at G;exact G
  ·cases h
 ·cases h
theorem St {L:aC} (h:aB Tryz.prog L):aB Tryz.prog (Cp yb sh L):=h.bz TR agx
theorem adl (G:JQ) (I:Ji) (n:Nat) (ps:List Value):aF Tryz.prog ⟨aK,au,Cp G I aq⟩ 10 10 35 [.lst false 52 n (ad 6 ps), .lst false 52 n (ad 6 ps)]=
  (bif !decide ((↑n:Int)=(↑n:Int)) then some (.val (.bool false)) else (bif an 6 n (ad 6 ps)&&an 6 n (ad 6 ps)&&G n (ag 6 n (ad 6 ps)) n (ag 6 n (ad 6 ps)) false (↑n:Int) (0:Int) then some (.val (.bool true)) else none)):=by kernel_rfl
structure Er where
 er:Nat→List Value→Nat→List Value→Bool
def YD (n:Nat) (ps:List Value) (G:Nat) (I:List Value):Bool:= @decide (G=n∧I=ps∧dp n ps=true) (Classical.propDecidable _)
def rC:Er:= ⟨YD⟩
theorem YE {n:Nat} {ps:List Value} (h:dp n ps=true):rC.er n ps n ps=true:= @decide_eq_true _ (Classical.propDecidable _) ⟨rfl,rfl,h⟩
def Gy (J:Er):TF:=fun args=>match args with
 | [.lst _ 52 n f, .lst _ 52 G I]=>some (an 6 n f&&(an 6 G I&&J.er n (ag 6 n f) G (ag 6 G I)), .val (.bool true))
 | _=>none
theorem XE:Entry Tryz.prog 35 (Gy rC):=by
 refine gV (by kernel_rfl) (fun args r h=> ?_)
 unfold Gy at h
 split at h
 ·rename_i fl n f M G I
  simp only [Option.some.injEq,Prod.mk.injEq,Bool.and_eq_true] at h
  obtain ⟨⟨O,U,Z⟩,rfl⟩:=h
  obtain ⟨rfl,q1,k1⟩:= @of_decide_eq_true _ (Classical.propDecidable _) Z
  have J:bc [.lst fl 52 G f, .lst M 52 G I] [.lst false 52 G (ad 6 (ag 6 G f)), .lst false 52 G (ad 6 (ag 6 G I))]:=
   bc.cons (bE.row (by kernel_rfl) O) (bc.cons (bE.row (by kernel_rfl) U) (bc.refl _))
  rw [q1] at J
  have l1:=bI 6 G f
  generalize ag 6 G f=ps at*
  obtain ⟨ab,aE⟩:=zi (show kX.ly G ps=true from k1)
  refine ⟨⟨aK,au,Cp yb sh aq⟩,10,10,_,_,aJ _,(St aB.none).ok, ?_,J,bE.refl _⟩
  have p1:vF G ps G ps false (G:Int) 0:= ⟨rfl,rfl,rfl,rfl,l1,ab,aE⟩
  rw [adl]
  simp only [aZ l1,bV,Wt _ _ _ _ _ _ _ p1,Bool.and_self,cond_true,Bool.not_true,cond_false]
  first | rfl | (rw [dT (show (G:Int)=G from rfl)];rfl)
 ·cases h
end
end Go.Proofs.YtamcpiicmfielaaGreat.L
namespace Go.Proofs.YtamcpiicmfielaaGreat.L
open Go Go.V Go.RowKit Go.Proofs.YtamcpiicmfielaaGreat.Sp
open Go.Proofs (Tryz.prog)
noncomputable section
def qW (C:Cg) (G:Qg):FuncId→TF:=aw 19 (mz C) (aw 48 (cZ (oU G)) aK)
def qU (C:Cg):FuncId→TF:=aw 18 (mz C) (aw 19 (mz C) (aw 48 GI (aw 23 GI aK)))
theorem ady (C:Cg) (U:Qg) (p:Nat) (ts ps:List Value) (r:Nat) (us qs:List Value):letI I:=(↑(p+1):Int);letI G:=(I - 1);letI M:=(ag 3 (p+1) (ad 3 ts));letI O:=(ag 6 (p+1) (ad 6 ps));letI J:=(0+(p+1));letI Z:=(r+1 - 1);letI ab:=(r+1 - 0);letI b7:=(aG (ah (ps.getD (G.toNat*6+1) undef)) (ah (qs.getD 1 undef))&&(aG (ah (ps.getD (G.toNat*6+2) undef)) (ah (qs.getD 2 undef))&&true));letI ch:=(aG (ah (ps.getD (G.toNat*6+4) undef)) (ah (qs.getD 4 undef))&&(aG (ah (ps.getD (G.toNat*6+5) undef)) (ah (qs.getD 5 undef))&&true));letI bD:=(ts.getD (G.toNat*3+1) undef);letI b0:=(ts.getD (G.toNat*3+2) undef);letI b1:=(U.qv (az (ts.getD (G.toNat*3+0) undef)) (ah bD) (ah b0));letI aE:=(0+(p+1)+Z);letI a1:=(0+(p+1)+ab);letI b2:=(ao.vals (List.take (J*3) M ++ ag 3 Z fun j q=>ad 3 us (j+Int.toNat (1:Int)) q));letI b3:=(ao.vals (List.take (J*6) O ++ ag 6 Z fun j q=>ad 6 qs (j+Int.toNat (1:Int)) q));letI b4:=(ao.vals (List.take (J*3) M ++ ag 3 ab fun j q=>ad 3 us (j+Int.toNat (0:Int)) q));letI b5:=(ao.vals (List.take (J*6) O ++ ag 6 ab fun j q=>ad 6 qs (j+Int.toNat (0:Int)) q));letI a6:=(↑(r+1):Int);letI b6:=(U.qv (az (us.getD 0 undef)) (ah (us.getD 1 undef)) (ah (us.getD 2 undef)));letI a7:=(ps.getD (G.toNat*6+0) undef);letI bx:=(ps.getD (G.toNat*6+3) undef);
  (aF Tryz.prog ⟨qW C U,au,aq⟩ 10 10 33 [aW (p+1) ts (p+1) ps,aW (r+1) us (r+1) qs]=(bif an 3 (p+1) (ad 3 ts)&&an 6 (p+1) (ad 6 ps)&&C.ko (p+1) M (p+1) O then (bif !decide (C.ck (p+1) M (p+1) O=0) then some (.tup [(.agg [(.val (.slice .none 0 0)),(.val (.slice .none 0 0))]),(.val (.int .i64 1))]) else (bif an 3 (r+1) (ad 3 us)&&an 6 (r+1) (ad 6 qs)&&C.ko (r+1) (ag 3 (r+1) (ad 3 us)) (r+1) (ag 6 (r+1) (ad 6 qs)) then (bif !decide (C.ck (r+1) (ag 3 (r+1) (ad 3 us)) (r+1) (ag 6 (r+1) (ad 6 qs))=0) then some (.tup [(.agg [(.val (.slice .none 0 0)),(.val (.slice .none 0 0))]),(.val (.int .i64 1))]) else (bif ai IntKind.i64 G then (bif decide (0≤I - 1)&&decide (I - 1 < I) then (bif b8 a7&&b8 (qs.getD 0 undef) then (bif bb (ps.getD (G.toNat*6+1) undef)&&bb (qs.getD 1 undef) then (bif bb (ps.getD (G.toNat*6+2) undef)&&bb (qs.getD 2 undef) then (bif b8 bx&&b8 (qs.getD 3 undef) then (bif bb (ps.getD (G.toNat*6+4) undef)&&bb (qs.getD 4 undef) then (bif bb (ps.getD (G.toNat*6+5) undef)&&bb (qs.getD 5 undef) then (bif bif true then !(az a7==az (qs.getD 0 undef)&&b7&&(az bx==az (qs.getD 3 undef)&&ch&&true)) else az a7==az (qs.getD 0 undef)&&b7&&(az bx==az (qs.getD 3 undef)&&ch&&true) then some (.tup [(.agg [(.val (.slice .none 0 0)),(.val (.slice .none 0 0))]),(.val (.int .i64 9))]) else (bif ai IntKind.i64 G then (bif decide (0≤I - 1)&&decide (I - 1 < I) then (bif aY (ts.getD (G.toNat*3+0) undef) bD b0&&aY (us.getD 0 undef) (us.getD 1 undef) (us.getD 2 undef)&&(U.aV (ah bD) (ah b0)&&U.aV (ah (us.getD 1 undef)) (ah (us.getD 2 undef))) then (bif decide (0 < U.cq b1 b6) then some (.tup [(.agg [(.val (.slice .none 0 0)),(.val (.slice .none 0 0))]),(.val (.int .i64 8))]) else (bif decide (U.cq b1 b6=0) then (bif ai IntKind.i64 (I+a6) then (bif ai IntKind.i64 (I+a6 - 1) then (bif decide (1000 < I+a6 - 1) then some (.tup [(.agg [(.val (.slice .none 0 0)),(.val (.slice .none 0 0))]),(.val (.int .i64 4))]) else (bif an 3 (p+1) (ad 3 ts) then (bif aU Tryz.prog J 27&&(ao.vals M).bk then (bif an 6 (p+1) (ad 6 ps) then (bif aU Tryz.prog J 35&&(ao.vals O).bk then (bif an 3 Z fun j q=>ad 3 us (j+Int.toNat (1:Int)) q then (bif decide (J*3≤(ao.vals M).len)&&aU Tryz.prog aE 27&&(ao.vals (ag 3 Z fun j q=>ad 3 us (j+Int.toNat (1:Int)) q)).bk then (bif an 6 Z fun j q=>ad 6 qs (j+Int.toNat (1:Int)) q then (bif decide (J*6≤(ao.vals O).len)&&aU Tryz.prog aE 35&&(ao.vals (ag 6 Z fun j q=>ad 6 qs (j+Int.toNat (1:Int)) q)).bk then (bif decide (0+aE*3≤b2.len) then (bif decide (0+aE*6≤b3.len) then some (.tup [(.agg [(.lst false 27 aE (cC b2 [] 0 3)),(.lst false 35 aE (cC b3 [] 0 6))]),(.val (.int .i64 0))]) else none) else none) else none) else none) else none) else none) else none) else none) else none) else none)) else none) else none) else (bif ai IntKind.i64 (I+a6) then (bif ai IntKind.i64 (I+a6 - 0) then (bif decide (1000 < I+a6 - 0) then some (.tup [(.agg [(.val (.slice .none 0 0)),(.val (.slice .none 0 0))]),(.val (.int .i64 4))]) else (bif an 3 (p+1) (ad 3 ts) then (bif aU Tryz.prog J 27&&(ao.vals M).bk then (bif an 6 (p+1) (ad 6 ps) then (bif aU Tryz.prog J 35&&(ao.vals O).bk then (bif an 3 ab fun j q=>ad 3 us (j+Int.toNat (0:Int)) q then (bif decide (J*3≤(ao.vals M).len)&&aU Tryz.prog a1 27&&(ao.vals (ag 3 ab fun j q=>ad 3 us (j+Int.toNat (0:Int)) q)).bk then (bif an 6 ab fun j q=>ad 6 qs (j+Int.toNat (0:Int)) q then (bif decide (J*6≤(ao.vals O).len)&&aU Tryz.prog a1 35&&(ao.vals (ag 6 ab fun j q=>ad 6 qs (j+Int.toNat (0:Int)) q)).bk then (bif decide (0+a1*3≤b4.len) then (bif decide (0+a1*6≤b5.len) then some (.tup [(.agg [(.lst false 27 a1 (cC b4 [] 0 3)),(.lst false 35 a1 (cC b5 [] 0 6))]),(.val (.int .i64 0))]) else none) else none) else none) else none) else none) else none) else none) else none) else none) else none)) else none) else none))) else none) else none) else none)) else none) else none) else none) else none) else none) else none) else none) else none)) else none)) else none)):=by kernel_rfl
theorem adx (C:Cg) (n:Nat) (ts:List Value) (m:Nat) (ps:List Value) (J:Nat) (us:List Value) (I:Nat) (qs:List Value):letI G:=((↑n:Int) - 1);letI U:=(aG (ah (ps.getD (G.toNat*6+1) undef)) (ah (qs.getD 1 undef))&&(aG (ah (ps.getD (G.toNat*6+2) undef)) (ah (qs.getD 2 undef))&&true));letI Z:=(aG (ah (ps.getD (G.toNat*6+4) undef)) (ah (qs.getD 4 undef))&&(aG (ah (ps.getD (G.toNat*6+5) undef)) (ah (qs.getD 5 undef))&&true));letI M:=(ps.getD (G.toNat*6+0) undef);letI O:=(ps.getD (G.toNat*6+3) undef);
  (aF Tryz.prog ⟨qU C,au,aq⟩ 10 10 33 [aW n ts m ps,aW J us I qs]=(bif an 3 n (ad 3 ts)&&an 6 m (ad 6 ps)&&C.ko n (ag 3 n (ad 3 ts)) m (ag 6 m (ad 6 ps)) then (bif !decide (C.ck n (ag 3 n (ad 3 ts)) m (ag 6 m (ad 6 ps))=0) then some (.tup [(.agg [(.val (.slice .none 0 0)),(.val (.slice .none 0 0))]),(.val (.int .i64 1))]) else (bif an 3 J (ad 3 us)&&an 6 I (ad 6 qs)&&C.ko J (ag 3 J (ad 3 us)) I (ag 6 I (ad 6 qs)) then (bif !decide (C.ck J (ag 3 J (ad 3 us)) I (ag 6 I (ad 6 qs))=0) then some (.tup [(.agg [(.val (.slice .none 0 0)),(.val (.slice .none 0 0))]),(.val (.int .i64 1))]) else (bif ai IntKind.i64 G then (bif decide (0≤(↑n:Int) - 1)&&decide ((↑n:Int) - 1 < (↑m:Int)) then (bif decide (0 < (↑I:Int)) then (bif b8 M&&b8 (qs.getD 0 undef) then (bif bb (ps.getD (G.toNat*6+1) undef)&&bb (qs.getD 1 undef) then (bif bb (ps.getD (G.toNat*6+2) undef)&&bb (qs.getD 2 undef) then (bif b8 O&&b8 (qs.getD 3 undef) then (bif bb (ps.getD (G.toNat*6+4) undef)&&bb (qs.getD 4 undef) then (bif bb (ps.getD (G.toNat*6+5) undef)&&bb (qs.getD 5 undef) then (bif bif true then !(az M==az (qs.getD 0 undef)&&U&&(az O==az (qs.getD 3 undef)&&Z&&true)) else az M==az (qs.getD 0 undef)&&U&&(az O==az (qs.getD 3 undef)&&Z&&true) then some (.tup [(.agg [(.val (.slice .none 0 0)),(.val (.slice .none 0 0))]),(.val (.int .i64 9))]) else (bif ai IntKind.i64 G then (bif decide (0≤(↑n:Int) - 1)&&decide ((↑n:Int) - 1 < (↑n:Int)) then (bif decide (0 < (↑J:Int)) then none else none) else none) else none)) else none) else none) else none) else none) else none) else none) else none) else none) else none)) else none)) else none)):=by kernel_rfl
theorem Zt (C:Cg) (n:Nat) (ts:List Value) (m:Nat) (ps:List Value) (J:Nat) (us:List Value) (I:Nat) (qs:List Value):letI G:=((↑n:Int) - 1);letI U:=(aG (ah (ps.getD (G.toNat*6+1) undef)) (ah (qs.getD 1 undef))&&(aG (ah (ps.getD (G.toNat*6+2) undef)) (ah (qs.getD 2 undef))&&true));letI Z:=(aG (ah (ps.getD (G.toNat*6+4) undef)) (ah (qs.getD 4 undef))&&(aG (ah (ps.getD (G.toNat*6+5) undef)) (ah (qs.getD 5 undef))&&true));letI M:=(ps.getD (G.toNat*6+0) undef);letI O:=(ps.getD (G.toNat*6+3) undef);
  (aF Tryz.prog ⟨qU C,au,aq⟩ 10 10 22 [aW n ts m ps,aW J us I qs]=(bif an 3 n (ad 3 ts)&&an 6 m (ad 6 ps)&&C.ko n (ag 3 n (ad 3 ts)) m (ag 6 m (ad 6 ps)) then (bif !decide (C.ck n (ag 3 n (ad 3 ts)) m (ag 6 m (ad 6 ps))=0) then some (.tup [(.agg [(.val (.slice .none 0 0)),(.val (.slice .none 0 0))]),(.val (.int .i64 1))]) else (bif an 3 J (ad 3 us)&&an 6 I (ad 6 qs)&&C.ko J (ag 3 J (ad 3 us)) I (ag 6 I (ad 6 qs)) then (bif !decide (C.ck J (ag 3 J (ad 3 us)) I (ag 6 I (ad 6 qs))=0) then some (.tup [(.agg [(.val (.slice .none 0 0)),(.val (.slice .none 0 0))]),(.val (.int .i64 1))]) else (bif ai IntKind.i64 G then (bif decide (0≤(↑n:Int) - 1)&&decide ((↑n:Int) - 1 < (↑m:Int)) then (bif decide (0 < (↑I:Int)) then (bif b8 M&&b8 (qs.getD 0 undef) then (bif bb (ps.getD (G.toNat*6+1) undef)&&bb (qs.getD 1 undef) then (bif bb (ps.getD (G.toNat*6+2) undef)&&bb (qs.getD 2 undef) then (bif b8 O&&b8 (qs.getD 3 undef) then (bif bb (ps.getD (G.toNat*6+4) undef)&&bb (qs.getD 4 undef) then (bif bb (ps.getD (G.toNat*6+5) undef)&&bb (qs.getD 5 undef) then (bif bif true then !(az M==az (qs.getD 0 undef)&&U&&(az O==az (qs.getD 3 undef)&&Z&&true)) else az M==az (qs.getD 0 undef)&&U&&(az O==az (qs.getD 3 undef)&&Z&&true) then some (.tup [(.agg [(.val (.slice .none 0 0)),(.val (.slice .none 0 0))]),(.val (.int .i64 9))]) else (bif decide (0 < (↑J:Int)) then (bif decide (0≤(↑n:Int) - 1)&&decide ((↑n:Int) - 1 < (↑n:Int)) then none else none) else none)) else none) else none) else none) else none) else none) else none) else none) else none) else none)) else none)) else none)):=by kernel_rfl
theorem ZY (C:Cg) (n:Nat) (ts:List Value) (m:Nat) (ps:List Value) (G:Nat) (us:List Value) (I:Nat) (qs:List Value):
  (aF Tryz.prog ⟨qU C,au,aq⟩ 10 10 24 [aW n ts m ps,aW G us I qs]=(bif an 3 n (ad 3 ts)&&an 6 m (ad 6 ps)&&C.ko n (ag 3 n (ad 3 ts)) m (ag 6 m (ad 6 ps)) then (bif !decide (C.ck n (ag 3 n (ad 3 ts)) m (ag 6 m (ad 6 ps))=0) then some (.tup [(.val (.slice .none 0 0)),(.val (.int .i64 1))]) else (bif an 3 G (ad 3 us)&&an 6 I (ad 6 qs)&&C.ko G (ag 3 G (ad 3 us)) I (ag 6 I (ad 6 qs)) then (bif !decide (C.ck G (ag 3 G (ad 3 us)) I (ag 6 I (ad 6 qs))=0) then some (.tup [(.val (.slice .none 0 0)),(.val (.int .i64 1))]) else (bif decide (0 < (↑n:Int)) then (bif ai IntKind.i64 ((↑n:Int) - 1) then (bif decide (0≤(↑n:Int) - 1)&&decide ((↑n:Int) - 1 < (↑n:Int)) then (bif [(fun q=>ad 3 ts (Int.toNat (0:Int)) (0+q)) (nat_lit 0),(fun q=>ad 3 ts (Int.toNat (0:Int)) (0+q)) (nat_lit 1),(fun q=>ad 3 ts (Int.toNat (0:Int)) (0+q)) (nat_lit 2)].all bB then (bif [(fun q=>ad 3 ts ((↑n:Int) - 1).toNat (0+q)) (nat_lit 0),(fun q=>ad 3 ts ((↑n:Int) - 1).toNat (0+q)) (nat_lit 1),(fun q=>ad 3 ts ((↑n:Int) - 1).toNat (0+q)) (nat_lit 2)].all bB then (bif decide (0 < (↑G:Int)) then none else none) else none) else none) else none) else none) else none)) else none)) else none)):=by kernel_rfl
theorem adD (C:Cg) (n:Nat) (ts:List Value) (m:Nat) (ps:List Value) (G:Nat) (us:List Value) (I:Nat) (qs:List Value):
  (aF Tryz.prog ⟨qU C,au,aq⟩ 10 10 34 [aW n ts m ps,aW G us I qs]=(bif an 3 n (ad 3 ts)&&an 6 m (ad 6 ps)&&C.ko n (ag 3 n (ad 3 ts)) m (ag 6 m (ad 6 ps)) then (bif !decide (C.ck n (ag 3 n (ad 3 ts)) m (ag 6 m (ad 6 ps))=0) then some (.tup [(.lst true 52 0 (cC (dC (intKind Tryz.prog 52) [].flatten) [] 0 6)),(.val (.int .i64 1))]) else (bif an 3 G (ad 3 us)&&an 6 I (ad 6 qs)&&C.ko G (ag 3 G (ad 3 us)) I (ag 6 I (ad 6 qs)) then (bif !decide (C.ck G (ag 3 G (ad 3 us)) I (ag 6 I (ad 6 qs))=0) then some (.tup [(.lst true 52 0 (cC (dC (intKind Tryz.prog 52) [].flatten) [] 0 6)),(.val (.int .i64 1))]) else (bif decide (0 < (↑n:Int)) then (bif ai IntKind.i64 ((↑n:Int) - 1) then (bif decide (0≤(↑n:Int) - 1)&&decide ((↑n:Int) - 1 < (↑n:Int)) then (bif [(fun q=>ad 3 ts (Int.toNat (0:Int)) (0+q)) (nat_lit 0),(fun q=>ad 3 ts (Int.toNat (0:Int)) (0+q)) (nat_lit 1),(fun q=>ad 3 ts (Int.toNat (0:Int)) (0+q)) (nat_lit 2)].all bB then (bif [(fun q=>ad 3 ts ((↑n:Int) - 1).toNat (0+q)) (nat_lit 0),(fun q=>ad 3 ts ((↑n:Int) - 1).toNat (0+q)) (nat_lit 1),(fun q=>ad 3 ts ((↑n:Int) - 1).toNat (0+q)) (nat_lit 2)].all bB then (bif decide (0 < (↑G:Int)) then none else none) else none) else none) else none) else none) else none)) else none)) else none)):=by kernel_rfl
end
end Go.Proofs.YtamcpiicmfielaaGreat.L
namespace Go.Proofs.YtamcpiicmfielaaGreat.L
open Go Go.V Go.RowKit Go.Proofs.YtamcpiicmfielaaGreat.Sp
open Go.Proofs (Tryz.prog)
noncomputable section
theorem Iq:bf Tryz.prog (qW aX af):=((aJ _).add ru.cZ).add Dd
theorem adz (p r:Nat) (ts ps us qs:List Value) (l1:ts.length=(p+1)*3) (l2:ps.length=(p+1)*6) (J:us.length=(r+1)*3) (M:qs.length=(r+1)*6)
  (b0:bj (p+1) ts (p+1) ps=true) (ca:aS (p+1) ts (p+1) ps=0) (b1:bj (r+1) us (r+1) qs=true) (cb:aS (r+1) us (r+1) qs=0) (ed:p+1≤10) (eg:r+1≤10):
  aF Tryz.prog ⟨qW aX af,au,aq⟩ 10 10 33 [aW (p+1) ts (p+1) ps,aW (r+1) us (r+1) qs]=some (iy (p+1) ts ps (r+1) us qs):=by
 have Z:=lC b0 ca
 have ab:=lC b1 cb
 have e1:((p+1:Nat):Int) - 1=(p:Int):=by omega
 obtain ⟨⟨b6,b7⟩,_,_⟩:=nb (Z.kC p (by omega))
 obtain ⟨⟨a1,a6⟩,_,_⟩:=nb (ab.kC 0 (by omega))
 obtain ⟨ch,ct⟩:=df (Z.ts.ok p (by omega))
 obtain ⟨d1,a7⟩:=df (ab.ts.ok 0 (by omega))
 simp only [Nat.zero_mul,Nat.zero_add] at a1 a6 d1 a7
 obtain ⟨x1,x2,x3⟩:=lU b6
 obtain ⟨c4,c5,c6⟩:=lU b7
 obtain ⟨c7,dx,dy⟩:=lU a1
 obtain ⟨ea,eb,ec⟩:=lU a6
 have b2:=nU l1 Z.ts.ok
 have b3:=xm l2 Z.kC
 have b4:=nU J ab.ts.ok
 have b5:=xm M ab.kC
 have q1:af.qv (az (us.getD 0 undef)) (ah (us.getD 1 undef)) (ah (us.getD 2 undef))=qt us 0:=rfl
 have c0:List.take ((p+1)*3) ts=ts:=List.take_of_length_le (by omega)
 have c3:List.take ((p+1)*6) ps=ps:=List.take_of_length_le (by omega)
 have k0:((p+1:Nat):Int)+((r+1:Nat):Int)=((p+1+(r+1):Nat):Int):=by omega
 have k1:((p+1+(r+1):Nat):Int) - 1=((p+1+r:Nat):Int):=by omega
 rw [ady]
 simp only [e1,k0,k1,c0,c3,Int.toNat_natCast,Nat.add_sub_cancel,Nat.sub_zero,Nat.zero_add,Int.zero_add,Int.sub_zero,aZ l1,aZ l2,aZ J,aZ M,bV,NG,ss,q1,show Int.toNat 1=1 from rfl,Int.toNat_zero,zV J,zV M,show (ag 3 (r+1) fun j q=>ad 3 us (j+0) q)=us from aZ J,show (ag 6 (r+1) fun j q=>ad 6 qs (j+0) q)=qs from aZ M]
 rw [show aX.ko (p+1) ts (p+1) ps=true from b0,show aX.ko (r+1) us (r+1) qs=true from b1,dT (show aX.ck (p+1) ts (p+1) ps=0 from ca),dT (show aX.ck (r+1) us (r+1) qs=0 from cb),
  aM (z:=(p:Int)) (by omega),dT (show (0:Int)≤(p:Int) by omega),dT (show (p:Int) < ((p+1:Nat):Int) by omega),x1,x2,x3,c4,c5,c6,c7,dx,dy,ea,eb,ec]
 by_cases G:mb ps p qs 0=true
 case neg=>
  have I:fA (p+1) ts ps us qs=9:=if_neg G
  unfold iy
  rw [I]
  rw [Bool.not_eq_true] at G
  unfold mb at G
  simp only [Nat.zero_mul,Nat.zero_add] at G
  rw [G];rfl
 have I:fA (p+1) ts ps us qs= @ite Int (qt us 0 < qt ts p) (Classical.propDecidable _) 8 0:=if_pos G
 unfold mb at G
 simp only [Nat.zero_mul,Nat.zero_add] at G
 rw [G,ch,ff ct,d1,ff a7]
 by_cases U:qt us 0 < qt ts p
 ·rw [if_pos U] at I
  unfold iy
  rw [I,dT (pB.2 U)];rfl
 rw [if_neg U] at I
 unfold iy
 rw [I,dF (fun h=>U (pB.1 h))]
 by_cases O:qt us 0=qt ts p
 ·have aE:dJ (p+1) ts us=1:=if_pos O
  rw [aE,dT (yk.2 O.symm)]
  have bx:=oz (sz:=3) (d:=1) (n:=p+1) (m:=r+1) l1 J
  have bD:=oz (sz:=6) (d:=1) (n:=p+1) (m:=r+1) l2 M
  unfold bA at bx bD
  rw [aM (z:=((p+1+(r+1):Nat):Int)) (by omega),aM (z:=((p+1+r:Nat):Int)) (by omega),dF (show ¬ (1000:Int) < ((p+1+r:Nat):Int) by omega),fL (m:=p+1+r) (by omega),fL (m:=p+1) (by omega),oM (m:=p+1+r) (by omega),oM (m:=p+1) (by omega),b2,b3,xl _ b4,xl _ b5,
   dT (show (p+1)*3≤(ao.vals ts).len from by show _≤ts.length;omega),dT (show (p+1)*6≤(ao.vals ps).len from by show _≤ps.length;omega),
   dT (show (p+1+r)*3≤(ao.vals (ts ++ List.drop (1*3) us)).len from by show _≤(ts ++ List.drop (1*3) us).length;rw [bx];omega),dT (show (p+1+r)*6≤(ao.vals (ps ++ List.drop (1*6) qs)).len from by show _≤(ps ++ List.drop (1*6) qs).length;rw [bD];omega),oe,oe]
  unfold bA
  rw [show p+1+(r+1) - 1=p+1+r by omega]
  rfl
 ·have aE:dJ (p+1) ts us=0:=if_neg O
  rw [aE,dF (fun h=>O (yk.1 h).symm)]
  rw [aM (z:=((p+1+(r+1):Nat):Int)) (by omega),dF (show ¬ (1000:Int) < ((p+1+(r+1):Nat):Int) by omega),fL (m:=p+1+(r+1)) (by omega),fL (m:=p+1) (by omega),oM (m:=p+1+(r+1)) (by omega),oM (m:=p+1) (by omega),b2,b3,b4,b5,
   dT (show (p+1)*3≤(ao.vals ts).len from by show _≤ts.length;omega),dT (show (p+1)*6≤(ao.vals ps).len from by show _≤ps.length;omega),
   dT (show (p+1+(r+1))*3≤(ao.vals (ts ++ us)).len from by show _≤(ts ++ us).length;rw [List.length_append];omega),dT (show (p+1+(r+1))*6≤(ao.vals (ps ++ qs)).len from by show _≤(ps ++ qs).length;rw [List.length_append];omega)]
  rw [show bA 3 0 ts us=ts ++ us from by unfold bA;rw [Nat.zero_mul,List.drop_zero],show bA 6 0 ps qs=ps ++ qs from by unfold bA;rw [Nat.zero_mul,List.drop_zero],Nat.sub_zero]
  simp only [oe]
  rfl
theorem OV {n:Nat} {ts:List Value} {m:Nat} {ps:List Value} {G:Nat} {us:List Value} {I:Nat} {qs:List Value} (l1:ts.length=n*3) (l2:ps.length=m*6) (Z:us.length=G*3) (ab:qs.length=I*6) (h:rL n ts m ps G us I qs=true):
  aF Tryz.prog ⟨qW aX af,au,aq⟩ 10 10 33 [aW n ts m ps,aW G us I qs]=some (iy n ts ps G us qs):=by
 obtain ⟨rfl,rfl,M,J,O,ca,U,cb⟩:=MJ h
 have aE:=(db ca).2.1
 have a1:=(db cb).2.1
 obtain ⟨p,rfl⟩:∃ p,n=p+1:= ⟨n - 1,by omega⟩
 obtain ⟨r,rfl⟩:∃ r,G=r+1:= ⟨G - 1,by omega⟩
 exact adz p r ts ps us qs l1 l2 Z ab O ca U cb M J
theorem Yc:Entry Tryz.prog 33 (sO e9):=by
 refine gV (by kernel_rfl) (fun args r h=> ?_)
 unfold sO at h
 split at h
 ·rename_i fl n f a6 m g a7 O I bx M J
  simp only [Option.some.injEq,Prod.mk.injEq,Bool.and_eq_true,decide_eq_true_eq] at h
  obtain ⟨⟨⟨⟨⟨U,Z⟩,ab,aE⟩,a1⟩,G⟩,rfl⟩:=h
  have G:fA n (ag 3 n f) (ag 6 m g) (ag 3 O I) (ag 6 M J)=0:=G
  refine ⟨⟨qW aX af,au,aq⟩,10,10,_,_,Iq,aN,OV (bI 3 n f) (bI 6 m g) (bI 3 O I) (bI 6 M J) a1,bc.cons (dM U Z) (bc.cons (dM ab aE) (bc.refl _)), ?_⟩
  unfold iy
  rw [dT G]
  exact bE.refl _
 ·cases h
theorem Yb:Entry Tryz.prog 33 (sN e9):=by
 refine gV (by kernel_rfl) (fun args r h=> ?_)
 unfold sN at h
 split at h
 ·rename_i fl n f a6 m g a7 O I bx M J
  simp only [Option.some.injEq,Prod.mk.injEq,Bool.and_eq_true,Bool.not_eq_true',decide_eq_false_iff_not] at h
  obtain ⟨⟨⟨⟨⟨U,Z⟩,ab,aE⟩,a1⟩,G⟩,rfl⟩:=h
  have G:¬ fA n (ag 3 n f) (ag 6 m g) (ag 3 O I) (ag 6 M J)=0:=G
  refine ⟨⟨qW aX af,au,aq⟩,10,10,_,_,Iq,aN,OV (bI 3 n f) (bI 6 m g) (bI 3 O I) (bI 6 M J) a1,bc.cons (dM U Z) (bc.cons (dM ab aE) (bc.refl _)), ?_⟩
  unfold iy
  rw [dF G]
  exact bE.refl _
 ·cases h
structure Bg where
 ba:Nat→List Value→Nat→List Value→Nat→List Value→Nat→List Value→Bool
def tw (n:Nat) (ts:List Value) (m:Nat) (ps:List Value) (I:Nat) (us:List Value) (G:Nat) (qs:List Value):Bool:=bj n ts m ps&&bj I us G qs&& !(decide (aS n ts m ps=0)&&decide (aS I us G qs=0))
def mJ:Bg:= ⟨tw⟩
def my (B:Bg) (v:AV):TF:=fun args=>match args with
 | [.agg [.lst _ 27 n f, .lst _ 35 m g], .agg [.lst _ 27 I J, .lst _ 35 G M]]=>
  some (an 3 n f&&an 6 m g&&(an 3 I J&&an 6 G M)&&B.ba n (ag 3 n f) m (ag 6 m g) I (ag 3 I J) G (ag 6 G M),v)
 | _=>none
def AL:AV:= .tup [.agg [.val (.slice none 0 0), .val (.slice none 0 0)], .val (.int .i64 1)]
def Q6:AV:= .tup [.val (.slice none 0 0), .val (.int .i64 1)]
def AM (e:Int):AV:= .tup [.lst false 52 0 (ad 6 []), .val (.int .i64 e)]
theorem Rt:bf Tryz.prog (qU aX):=((((aJ _).add Lt).add Lt).add Dd).add C6
theorem xw {g:FuncId} {v:AV} (bx:fB Tryz.prog g=true) (H:∀ (n:Nat) (ts:List Value) (m:Nat) (ps:List Value) (I:Nat) (us:List Value) (G:Nat) (qs:List Value),ts.length=n*3→ps.length=m*6→us.length=I*3→qs.length=G*6→bj n ts m ps=true→bj I us G qs=true→(¬ aS n ts m ps=0∨aS n ts m ps=0∧¬ aS I us G qs=0)→∃ x,aF Tryz.prog ⟨qU aX,au,aq⟩ 10 10 g [aW n ts m ps,aW I us G qs]=some x∧bE x v):Entry Tryz.prog g (my mJ v):=by
 refine gV bx (fun args r h=> ?_)
 unfold my at h
 split at h
 ·rename_i fl n f b0 m J b1 I O b2 G U
  simp only [Option.some.injEq,Prod.mk.injEq,Bool.and_eq_true] at h
  obtain ⟨⟨⟨⟨aE,a1⟩,a6,a7⟩,M⟩,rfl⟩:=h
  have M:tw n (ag 3 n f) m (ag 6 m J) I (ag 3 I O) G (ag 6 G U)=true:=M
  unfold tw at M
  rw [Bool.and_eq_true,Bool.and_eq_true,Bool.not_eq_true',Bool.and_eq_false_iff,decide_eq_false_iff_not,decide_eq_false_iff_not] at M
  obtain ⟨⟨k1,bD⟩,ab⟩:=M
  have ab:¬ aS n (ag 3 n f) m (ag 6 m J)=0∨aS n (ag 3 n f) m (ag 6 m J)=0∧¬ aS I (ag 3 I O) G (ag 6 G U)=0:=by
   by_cases Z:aS n (ag 3 n f) m (ag 6 m J)=0
   ·exact .inr ⟨Z,ab.elim (fun h=>absurd Z h) id⟩
   ·exact .inl Z
  obtain ⟨x,q1,q2⟩:=H n _ m _ I _ G _ (bI 3 n f) (bI 6 m J) (bI 3 I O) (bI 6 G U) k1 bD ab
  exact ⟨_,10,10,_,_,Rt,aN,q1,bc.cons (dM aE a1) (bc.cons (dM a6 a7) (bc.refl _)),q2⟩
 ·cases h
theorem Zk {fl:Bool} {t:TypeId} {f g:Nat→Nat→AV} :bE (.lst fl t 0 f) (.lst false t 0 g):=fun B w y h=>by
 obtain ⟨A,cap,G,I,J,M⟩:=h
 exact ⟨A,cap,G,I,fun h=>(by cases h), .inl rfl⟩
theorem yH {fl:Bool} {f:Nat→Nat→AV} {e:Int} :bE (.tup [.lst fl 52 0 f, .val (.int .i64 e)]) (AM e):=bE.tup (bc.cons Zk (bc.refl _))
theorem XJ:Entry Tryz.prog 22 (my mJ (AL)):=xw (by kernel_rfl) fun n ts m ps I us G qs l1 l2 U Z k1 M O=>by
 have T:=Zt aX n ts m ps I us G qs
 rw [aZ l1,aZ l2,aZ U,aZ Z,bV,bV,bV,bV,show aX.ko n ts m ps=true from k1,show aX.ko I us G qs=true from M] at T
 rcases O with h | ⟨h,J⟩
 ·rw [dF (show ¬ aX.ck n ts m ps=0 from h)] at T
  exact ⟨_,T,bE.refl _⟩
 ·rw [dT (show aX.ck n ts m ps=0 from h),dF (show ¬ aX.ck I us G qs=0 from J)] at T
  exact ⟨_,T,bE.refl _⟩
theorem Ya:Entry Tryz.prog 33 (my mJ (AL)):=xw (by kernel_rfl) fun n ts m ps I us G qs l1 l2 U Z k1 M O=>by
 have T:=adx aX n ts m ps I us G qs
 rw [aZ l1,aZ l2,aZ U,aZ Z,bV,bV,bV,bV,show aX.ko n ts m ps=true from k1,show aX.ko I us G qs=true from M] at T
 rcases O with h | ⟨h,J⟩
 ·rw [dF (show ¬ aX.ck n ts m ps=0 from h)] at T
  exact ⟨_,T,bE.refl _⟩
 ·rw [dT (show aX.ck n ts m ps=0 from h),dF (show ¬ aX.ck I us G qs=0 from J)] at T
  exact ⟨_,T,bE.refl _⟩
theorem XO:Entry Tryz.prog 24 (my mJ (Q6)):=xw (by kernel_rfl) fun n ts m ps I us G qs l1 l2 U Z k1 M O=>by
 have T:=ZY aX n ts m ps I us G qs
 rw [aZ l1,aZ l2,aZ U,aZ Z,bV,bV,bV,bV,show aX.ko n ts m ps=true from k1,show aX.ko I us G qs=true from M] at T
 rcases O with h | ⟨h,J⟩
 ·rw [dF (show ¬ aX.ck n ts m ps=0 from h)] at T
  exact ⟨_,T,bE.refl _⟩
 ·rw [dT (show aX.ck n ts m ps=0 from h),dF (show ¬ aX.ck I us G qs=0 from J)] at T
  exact ⟨_,T,bE.refl _⟩
theorem Yd:Entry Tryz.prog 34 (my mJ (AM 1)):=xw (by kernel_rfl) fun n ts m ps I us G qs l1 l2 U Z k1 M O=>by
 have T:=adD aX n ts m ps I us G qs
 rw [aZ l1,aZ l2,aZ U,aZ Z,bV,bV,bV,bV,show aX.ko n ts m ps=true from k1,show aX.ko I us G qs=true from M] at T
 rcases O with h | ⟨h,J⟩
 ·rw [dF (show ¬ aX.ck n ts m ps=0 from h)] at T
  exact ⟨_,T,yH⟩
 ·rw [dT (show aX.ck n ts m ps=0 from h),dF (show ¬ aX.ck I us G qs=0 from J)] at T
  exact ⟨_,T,yH⟩
end
end Go.Proofs.YtamcpiicmfielaaGreat.L
namespace Go.Proofs.YtamcpiicmfielaaGreat.L
open Go Go.V Go.RowKit Go.Proofs.YtamcpiicmfielaaGreat.Sp
open Go.Proofs (Tryz.prog)
noncomputable section
theorem AW:bf Tryz.prog (nO aX af):=((aJ _).add ru.cZ).add Dd
theorem ahe (l:List Rat) (h:l.length≤1000):lO l.length (aL l):= ⟨h,by rw [mM];omega,fun i hi=>by
 obtain ⟨G,I,J⟩:=jH (n9 l) i hi
 exact ⟨G,I,J⟩⟩
theorem aaa (l:List Rat):bO (qt (aL l)) (l.length - 1)=ig l:=by
 cases l with
 | nil=>rfl
 | cons x l=>exact Fp _ fun i hi=>il _ (by simp only [List.length_cons] at *;omega)
section
variable {N : Nat} {cs : List Value} {w1 w2 w3 z1 z2 z3 : Value} {lo hi : Rat}
theorem OU (h:cL N cs w1 w2 w3 z1 z2 z3) (e1:rv w1 w2 w3=lo) (M:rv z1 z2 z3=hi) (aE:bn (qt cs) lo hi N≠ []):mO N 0 w1 w2 w3 z1 z2 z3 cs=true∧(fJ N 0 w1 w2 w3 z1 z2 z3 cs).1=(cI (qt cs) lo hi N).length∧(fJ N 0 w1 w2 w3 z1 z2 z3 cs).2.2=aL (cI (qt cs) lo hi N)∧(cI (qt cs) lo hi N).length≤1000:=by
 subst e1 M
 have ab:cd (qt cs) (rv w1 w2 w3) (rv z1 z2 z3) N≠ []:=fun O=>aE (by
  cases Z:bn (qt cs) (rv w1 w2 w3) (rv z1 z2 z3) N with
  | nil=>rfl
  | cons x l=>
   have:=((zR (qt cs) (rv w1 w2 w3) (rv z1 z2 z3) N).2 x).2 (by rw [Z];exact List.mem_cons_self)
   rw [O] at this
   cases this)
 have G:vx N 0 w1 w2 w3 z1 z2 z3 cs:= ⟨rfl,h,ab⟩
 obtain ⟨I,J⟩:=(Oi _ _ _ _ _ _ _ _ _ G).2
 rw [Fo] at I J
 have U:=zS (qt cs) (rv w1 w2 w3) (rv z1 z2 z3) N
 rw [Fo] at U
 have:=h.lim
 exact ⟨Wl _ _ _ _ _ _ _ _ _ G,I,J,by omega⟩
theorem adG (h:cL N cs w1 w2 w3 z1 z2 z3) (e1:rv w1 w2 w3=lo) (Z:rv z1 z2 z3=hi) (aE:bn (qt cs) lo hi N≠ []) (ab:1 < (cI (qt cs) lo hi N).length):letI q:=fJ N 0 w1 w2 w3 z1 z2 z3 cs;letI r:=kp q.1 1 q.2.2;
  (bif mO N 0 w1 w2 w3 z1 z2 z3 cs then (bif rp q.1 1 q.2.2 then (bif decide (r.1*6≤(ao.vals r.2.2).len) then some (AV.tup [.lst false 52 r.1 (cC (.vals r.2.2) [] 0 6), .val (.int .i64 0)]) else none) else none) else none)=some (sX (cI (qt cs) lo hi N)):=by
 obtain ⟨J,M,O,U⟩:=OU h e1 Z aE
 have I:vC (cI (qt cs) lo hi N).length 1 (aL (cI (qt cs) lo hi N)):= ⟨rfl,ab,ahe _ U⟩
 obtain ⟨d1,G⟩:=(Om _ _ _ I).2
 rw [aaa] at G
 rw [J,M,O,Wp _ _ _ I,d1,G,oe,dT (show ((cI (qt cs) lo hi N).length - 1)*6≤(ao.vals (ig (cI (qt cs) lo hi N))).len from by show _≤(ig _).length;rw [DZ];omega)]
 rfl
theorem adF {g:Nat→Nat→AV} (h:cL N cs w1 w2 w3 z1 z2 z3) (e1:rv w1 w2 w3=lo) (M:rv z1 z2 z3=hi) (U:bn (qt cs) lo hi N≠ []) (O:(cI (qt cs) lo hi N).length=1):letI q:=fJ N 0 w1 w2 w3 z1 z2 z3 cs;
  (bif mO N 0 w1 w2 w3 z1 z2 z3 cs then (bif tR q.1 1 q.2.2 then some (AV.tup [.lst true 52 0 g, .val (.int .i64 0)]) else none) else none)=some (.tup [.lst true 52 0 g, .val (.int .i64 0)]):=by
 obtain ⟨G,I,J,ab⟩:=OU h e1 M U
 have Z:vA (cI (qt cs) lo hi N).length 1 (aL (cI (qt cs) lo hi N)):= ⟨rfl,O⟩
 rw [G,I,J,Wo _ _ _ Z]
 rfl
theorem adE {g:Nat→Nat→AV} (h:cL N cs w1 w2 w3 z1 z2 z3) (e1:rv w1 w2 w3=lo) (G:rv z1 z2 z3=hi) (I:bn (qt cs) lo hi N= []):
  (bif tO N 0 w1 w2 w3 z1 z2 z3 cs then some (AV.tup [.lst true 52 0 g, .val (.int .i64 0)]) else none)=some (.tup [.lst true 52 0 g, .val (.int .i64 0)]):=by
 subst e1 G
 have J:vw N 0 w1 w2 w3 z1 z2 z3 cs:= ⟨rfl,h,I⟩
 rw [Wk _ _ _ _ _ _ _ _ _ J]
 rfl
end
theorem Fq (p r:Nat) (ts ps us qs:List Value) (l1:ts.length=(p+1)*3) (l2:ps.length=(p+1)*6) (b1:us.length=(r+1)*3) (c7:qs.length=(r+1)*6)
  (bD:bj (p+1) ts (p+1) ps=true) (ca:aS (p+1) ts (p+1) ps=0) (b0:bj (r+1) us (r+1) qs=true) (cb:aS (r+1) us (r+1) qs=0) (c5:p+1≤10) (c6:r+1≤10) (K:Value→Value→Value→Value→Value→Value→Option AV):
  ∃ w1 w2 w3 z1 z2 z3,cL (p+1+(r+1)) (ts ++ us) w1 w2 w3 z1 z2 z3∧rv w1 w2 w3=bN ts us∧rv z1 z2 z3=bK (p+1) ts (r+1) us∧pS aX af p ts ps r us qs K=K w1 w2 w3 z1 z2 z3:=by
 have a7:=lC bD ca
 have bx:=lC b0 cb
 have L:=fun {w1 w2 w3 z1 z2 z3:Value} J G c3 c4=>MX (w1:=w1) (w2:=w2) (w3:=w3) (z1:=z1) (z2:=z2) (z3:=z3) l1 bD ca b1 b0 cb c5 c6 J G c3 c4
 have e1:((p+1:Nat):Int) - 1=(p:Int):=by omega
 have b6:((r+1:Nat):Int) - 1=(r:Int):=by omega
 have b7:(((p+1:Nat):Int) - 1).toNat=p:=by omega
 have ch:(((r+1:Nat):Int) - 1).toNat=r:=by omega
 obtain ⟨M,Z⟩:=df (a7.ts.ok 0 (by omega))
 obtain ⟨ab,a1⟩:=df (a7.ts.ok p (by omega))
 obtain ⟨O,aE⟩:=df (bx.ts.ok 0 (by omega))
 obtain ⟨d1,a6⟩:=df (bx.ts.ok r (by omega))
 simp only [Nat.zero_mul,Nat.zero_add] at M Z O aE
 have T:pS aX af p ts ps r us qs K=pS aX af p ts ps r us qs K:=rfl
 conv at T=>rhs;unfold pS
 rw [oI (vs:=ts) (j:=Int.toNat 0) M,oI (vs:=us) (j:=Int.toNat 0) O,oI (vs:=ts) (j:=(((p+1:Nat):Int) - 1).toNat) (by rw [b7];exact ab),oI (vs:=us) (j:=(((r+1:Nat):Int) - 1).toNat) (by rw [ch];exact d1)] at T
 have k1:((p+1:Nat):Int)+((r+1:Nat):Int)=((p+1+(r+1):Nat):Int):=by omega
 have dx:List.take ((p+1)*3) ts=ts:=List.take_of_length_le (by omega)
 simp only [e1,b6,Int.toNat_natCast,Nat.zero_add,Int.zero_add,Int.sub_zero,aZ l1,aZ l2,aZ b1,aZ c7,bV,k1,dx] at T
 rw [show aX.ko (p+1) ts (p+1) ps=true from bD,show aX.ko (r+1) us (r+1) qs=true from b0,dT (show aX.ck (p+1) ts (p+1) ps=0 from ca),dT (show aX.ck (r+1) us (r+1) qs=0 from cb),
  aM (z:=(p:Int)) (by omega),aM (z:=(r:Int)) (by omega),dT (show (0:Int)≤(p:Int) by omega),dT (show (p:Int) < ((p+1:Nat):Int) by omega),dT (show (0:Int)≤(r:Int) by omega),dT (show (r:Int) < ((r+1:Nat):Int) by omega),
  M,ff Z,ab,ff a1,O,ff aE,d1,ff a6,fL (m:=p+1+(r+1)) (by omega),fL (m:=p+1) (by omega),nU l1 a7.ts.ok,nU b1 bx.ts.ok,dT (show (p+1)*3≤(ao.vals ts).len from by show _≤ts.length;omega)] at T
 have ct:af.qv (az (us.getD 0 undef)) (ah (us.getD 1 undef)) (ah (us.getD 2 undef))=qt us 0:=rfl
 have c0:af.qv (az (ts.getD 0 undef)) (ah (ts.getD 1 undef)) (ah (ts.getD 2 undef))=qt ts 0:=rfl
 have b2:rv (us.getD 0 undef) (us.getD 1 undef) (us.getD 2 undef)=qt us 0:=rfl
 have b3:rv (ts.getD 0 undef) (ts.getD 1 undef) (ts.getD 2 undef)=qt ts 0:=rfl
 have b4:rv (us.getD (r*3+0) undef) (us.getD (r*3+1) undef) (us.getD (r*3+2) undef)=qt us r:=rfl
 have b5:rv (ts.getD (p*3+0) undef) (ts.getD (p*3+1) undef) (ts.getD (p*3+2) undef)=qt ts p:=rfl
 rw [ct,c0,ss us r,ss ts p] at T
 by_cases J:qt ts 0 < qt us 0
 ·have U:bN ts us=qt us 0:=if_pos J
  rw [dT (pB.2 J)] at T
  by_cases G:qt us r < qt ts p
  ·have I:bK (p+1) ts (r+1) us=qt us r:=if_pos G
   rw [dT (iF.2 G)] at T
   exact ⟨_,_,_,_,_,_,(L O aE d1 a6),(b2.trans U.symm),(b4.trans I.symm),T⟩
  ·have I:bK (p+1) ts (r+1) us=qt ts p:=if_neg G
   rw [dF (fun h=>G (iF.1 h))] at T
   exact ⟨_,_,_,_,_,_,(L O aE ab a1),(b2.trans U.symm),(b5.trans I.symm),T⟩
 ·have U:bN ts us=qt ts 0:=if_neg J
  rw [dF (fun h=>J (pB.1 h))] at T
  by_cases G:qt us r < qt ts p
  ·have I:bK (p+1) ts (r+1) us=qt us r:=if_pos G
   rw [dT (iF.2 G)] at T
   exact ⟨_,_,_,_,_,_,(L M Z d1 a6),(b3.trans U.symm),(b4.trans I.symm),T⟩
  ·have I:bK (p+1) ts (r+1) us=qt ts p:=if_neg G
   rw [dF (fun h=>G (iF.1 h))] at T
   exact ⟨_,_,_,_,_,_,(L M Z ab a1),(b3.trans U.symm),(b5.trans I.symm),T⟩
theorem adJ (p r:Nat) (ts ps us qs:List Value) (l1:ts.length=(p+1)*3) (l2:ps.length=(p+1)*6) (G:us.length=(r+1)*3) (a7:qs.length=(r+1)*6)
  (a1:bj (p+1) ts (p+1) ps=true) (ca:aS (p+1) ts (p+1) ps=0) (a6:bj (r+1) us (r+1) qs=true) (cb:aS (r+1) us (r+1) qs=0) (ab:p+1≤10) (aE:r+1≤10) (Z:bn (qt (ts ++ us)) (bN ts us) (bK (p+1) ts (r+1) us) (p+1+(r+1))≠ []) (U:1 < (bM (p+1) ts (r+1) us).length):
  aF Tryz.prog ⟨nO aX af,au,q9 mO fJ (xe rp kp aq)⟩ 10 10 34 [aW (p+1) ts (p+1) ps,aW (r+1) us (r+1) qs]=some (sX (bM (p+1) ts (r+1) us)):=by
 have bx:List.take ((p+1)*3) ts=ts:=List.take_of_length_le (by omega)
 rw [adC]
 simp only [Nat.zero_add,aZ l1,aZ G,bx]
 obtain ⟨w1,w2,w3,z1,z2,z3,I,J,M,O⟩:=Fq p r ts ps us qs l1 l2 G a7 a1 ca a6 cb ab aE _
 rw [O]
 exact adG I J M Z U
theorem adI (p r:Nat) (ts ps us qs:List Value) (l1:ts.length=(p+1)*3) (l2:ps.length=(p+1)*6) (G:us.length=(r+1)*3) (a7:qs.length=(r+1)*6)
  (a1:bj (p+1) ts (p+1) ps=true) (ca:aS (p+1) ts (p+1) ps=0) (a6:bj (r+1) us (r+1) qs=true) (cb:aS (r+1) us (r+1) qs=0) (ab:p+1≤10) (aE:r+1≤10) (Z:bn (qt (ts ++ us)) (bN ts us) (bK (p+1) ts (r+1) us) (p+1+(r+1))≠ []) (U:(bM (p+1) ts (r+1) us).length=1):
  ∃ g,aF Tryz.prog ⟨nO aX af,au,q9 mO fJ (Cm tR sf aq)⟩ 10 10 34 [aW (p+1) ts (p+1) ps,aW (r+1) us (r+1) qs]=some (.tup [.lst true 52 0 g, .val (.int .i64 0)]):=by
 have bx:List.take ((p+1)*3) ts=ts:=List.take_of_length_le (by omega)
 refine ⟨cC (dC (intKind Tryz.prog 52) [].flatten) [] 0 6, ?_⟩
 rw [adB]
 simp only [Nat.zero_add,aZ l1,aZ G,bx]
 obtain ⟨w1,w2,w3,z1,z2,z3,I,J,M,O⟩:=Fq p r ts ps us qs l1 l2 G a7 a1 ca a6 cb ab aE _
 rw [O]
 exact adF I J M Z U
theorem adH (p r:Nat) (ts ps us qs:List Value) (l1:ts.length=(p+1)*3) (l2:ps.length=(p+1)*6) (G:us.length=(r+1)*3) (a6:qs.length=(r+1)*6)
  (aE:bj (p+1) ts (p+1) ps=true) (ca:aS (p+1) ts (p+1) ps=0) (a1:bj (r+1) us (r+1) qs=true) (cb:aS (r+1) us (r+1) qs=0) (Z:p+1≤10) (ab:r+1≤10) (U:bn (qt (ts ++ us)) (bN ts us) (bK (p+1) ts (r+1) us) (p+1+(r+1))= []):
  ∃ g,aF Tryz.prog ⟨nO aX af,au,Cj tO sd aq⟩ 10 10 34 [aW (p+1) ts (p+1) ps,aW (r+1) us (r+1) qs]=some (.tup [.lst true 52 0 g, .val (.int .i64 0)]):=by
 have a7:List.take ((p+1)*3) ts=ts:=List.take_of_length_le (by omega)
 refine ⟨cC (dC (intKind Tryz.prog 52) [].flatten) [] 0 6, ?_⟩
 rw [adA]
 simp only [Nat.zero_add,aZ l1,aZ G,a7]
 obtain ⟨w1,w2,w3,z1,z2,z3,I,J,M,O⟩:=Fq p r ts ps us qs l1 l2 G a6 aE ca a1 cb Z ab _
 rw [O]
 exact adE I J M U
end
end Go.Proofs.YtamcpiicmfielaaGreat.L
namespace Go.Proofs.YtamcpiicmfielaaGreat.L
open Go Go.V Go.RowKit Go.Proofs.YtamcpiicmfielaaGreat.Sp
open Go.Proofs (Tryz.prog)
noncomputable section
def GR (L:Lh):TF:=fun args=>match wE L args with
 | some r=>some (r.1,AM 0)
 | none=>none
def o7 (G:Gg) (E:FuncId→TF):FuncId→TF:=aw 7 (GA G) (aw 9 Gv E)
def AT (I:Sm) (G:Jg) (E:FuncId→TF):FuncId→TF:=aw 22 (sO G) (aw 33 (sO G) (aw 20 (GV I) E))
def AU (G:Jg) (E:FuncId→TF):FuncId→TF:=aw 22 (sN G) (aw 33 (sN G) (aw 20 Az E))
def AZ (L:Lh) (R:Er):FuncId→TF:=aw 24 (sP L) (aw 34 (sP L) (aw 35 (Gy R) aK))
def AY (L:Lh):FuncId→TF:=aw 24 (wE L) (aw 34 (GR L) aK)
def AQ (B:Bg):FuncId→TF:=aw 22 (my B AL) (aw 33 (my B AL) (aw 20 Az (aw 24 (my B Q6) (aw 34 (my B (AM 1)) aK))))
theorem ag4 (aE:Gg) (bD:Sm) (ab:Jg) (L:Lh) (R:Er) (n:Nat) (ts:List Value) (m:Nat) (ps:List Value) (J:Nat) (us:List Value) (O:Nat) (qs:List Value):letI G:=(ag 3 J (ad 3 us));letI I:=(ag 3 n (ad 3 ts));letI U:=(ag 6 O (ad 6 qs));letI Z:=(ag 6 m (ad 6 ps));letI M:=(n+J - ab.jd n I G);letI a1:=(an 3 J (ad 3 us)&&an 6 O (ad 6 qs));letI a6:=(ad 3 (bA 3 (ab.jd n I G) I G));letI a7:=(ad 6 (bA 6 (ab.jd n I G) Z U));letI bx:=(ad 6 (L.lr n I J G));
  (aF Tryz.prog ⟨o7 aE (AT bD ab (AZ L R)),au,aq⟩ 10 10 6 [aW n ts m ps,aW J us O qs]=(bif an 3 n (ad 3 ts)&&an 6 m (ad 6 ps)&&aE.go n I m Z then (bif aE.gt n I m Z then some (.val (.bool true)) else (bif an 3 J (ad 3 us)&&an 6 O (ad 6 qs)&&aE.go J G O U then (bif aE.gt J G O U then some (.val (.bool true)) else (bif an 3 n (ad 3 ts)&&an 6 m (ad 6 ps)&&a1&&ab.jo n I m Z J G O U&&decide (ab.je n I Z G U=0) then (bif an 3 n (ad 3 ts)&&an 6 m (ad 6 ps)&&a1&&ab.jo n I m Z J G O U&&decide (ab.je n I Z G U=0) then (bif an 3 n (ad 3 ts)&&an 6 m (ad 6 ps)&&a1&&L.lo n I m Z J G O U then (bif an 3 n (ad 3 ts)&&an 6 m (ad 6 ps)&&a1&&L.lo n I m Z J G O U then (bif an 3 M a6&&an 6 M a7&&(an 3 M a6&&an 6 M a7&&bD.sm M (ag 3 M a6) M (ag 6 M a7) M (ag 3 M a6) M (ag 6 M a7)) then (bif an 6 (L.lc n I J G) bx&&(an 6 (L.lc n I J G) bx&&R.er (L.lc n I J G) (ag 6 (L.lc n I J G) bx) (L.lc n I J G) (ag 6 (L.lc n I J G) bx)) then some (.val (.bool true)) else none) else none) else none) else none) else none) else none)) else none)) else none)):=by kernel_rfl
theorem ag3 (aE:Gg) (bx:Sm) (ab:Jg) (L:Lh) (n:Nat) (ts:List Value) (m:Nat) (ps:List Value) (M:Nat) (us:List Value) (O:Nat) (qs:List Value):letI G:=(ag 3 M (ad 3 us));letI I:=(ag 3 n (ad 3 ts));letI U:=(ag 6 O (ad 6 qs));letI Z:=(ag 6 m (ad 6 ps));letI J:=(n+M - ab.jd n I G);letI a1:=(an 3 M (ad 3 us)&&an 6 O (ad 6 qs));letI a6:=(ad 3 (bA 3 (ab.jd n I G) I G));letI a7:=(ad 6 (bA 6 (ab.jd n I G) Z U));
  (aF Tryz.prog ⟨o7 aE (AT bx ab (AY L)),au,aq⟩ 10 10 6 [aW n ts m ps,aW M us O qs]=(bif an 3 n (ad 3 ts)&&an 6 m (ad 6 ps)&&aE.go n I m Z then (bif aE.gt n I m Z then some (.val (.bool true)) else (bif an 3 M (ad 3 us)&&an 6 O (ad 6 qs)&&aE.go M G O U then (bif aE.gt M G O U then some (.val (.bool true)) else (bif an 3 n (ad 3 ts)&&an 6 m (ad 6 ps)&&a1&&ab.jo n I m Z M G O U&&decide (ab.je n I Z G U=0) then (bif an 3 n (ad 3 ts)&&an 6 m (ad 6 ps)&&a1&&ab.jo n I m Z M G O U&&decide (ab.je n I Z G U=0) then (bif an 3 n (ad 3 ts)&&an 6 m (ad 6 ps)&&a1&&L.ln n I m Z M G O U then (bif an 3 n (ad 3 ts)&&an 6 m (ad 6 ps)&&a1&&L.ln n I m Z M G O U then (bif an 3 J a6&&an 6 J a7&&(an 3 J a6&&an 6 J a7&&bx.sm J (ag 3 J a6) J (ag 6 J a7) J (ag 3 J a6) J (ag 6 J a7)) then some (.val (.bool true)) else none) else none) else none) else none) else none)) else none)) else none)):=by kernel_rfl
theorem ag1 (ab:Gg) (Z:Jg) (L:Lh) (R:Er) (n:Nat) (ts:List Value) (m:Nat) (ps:List Value) (G:Nat) (us:List Value) (M:Nat) (qs:List Value):letI I:=(ag 3 G (ad 3 us));letI J:=(ag 3 n (ad 3 ts));letI O:=(ag 6 M (ad 6 qs));letI U:=(ag 6 m (ad 6 ps));letI aE:=(an 3 G (ad 3 us)&&an 6 M (ad 6 qs));letI a1:=(ad 6 (L.lr n J G I));
  (aF Tryz.prog ⟨o7 ab (AU Z (AZ L R)),au,aq⟩ 10 10 6 [aW n ts m ps,aW G us M qs]=(bif an 3 n (ad 3 ts)&&an 6 m (ad 6 ps)&&ab.go n J m U then (bif ab.gt n J m U then some (.val (.bool true)) else (bif an 3 G (ad 3 us)&&an 6 M (ad 6 qs)&&ab.go G I M O then (bif ab.gt G I M O then some (.val (.bool true)) else (bif an 3 n (ad 3 ts)&&an 6 m (ad 6 ps)&&aE&&Z.jo n J m U G I M O&& !decide (Z.je n J U I O=0) then (bif an 3 n (ad 3 ts)&&an 6 m (ad 6 ps)&&aE&&Z.jo n J m U G I M O&& !decide (Z.je n J U I O=0) then (bif an 3 n (ad 3 ts)&&an 6 m (ad 6 ps)&&aE&&L.lo n J m U G I M O then (bif an 3 n (ad 3 ts)&&an 6 m (ad 6 ps)&&aE&&L.lo n J m U G I M O then (bif decide (Z.je n J U I O=Z.je n J U I O) then (bif an 6 (L.lc n J G I) a1&&(an 6 (L.lc n J G I) a1&&R.er (L.lc n J G I) (ag 6 (L.lc n J G I) a1) (L.lc n J G I) (ag 6 (L.lc n J G I) a1)) then some (.val (.bool true)) else none) else some (.val (.bool false))) else none) else none) else none) else none)) else none)) else none)):=by kernel_rfl
theorem agZ (ab:Gg) (Z:Jg) (L:Lh) (n:Nat) (ts:List Value) (m:Nat) (ps:List Value) (I:Nat) (us:List Value) (G:Nat) (qs:List Value):letI J:=(ag 3 I (ad 3 us));letI M:=(ag 6 G (ad 6 qs));letI O:=(ag 3 n (ad 3 ts));letI U:=(ag 6 m (ad 6 ps));letI aE:=(an 3 I (ad 3 us)&&an 6 G (ad 6 qs));
  (aF Tryz.prog ⟨o7 ab (AU Z (AY L)),au,aq⟩ 10 10 6 [aW n ts m ps,aW I us G qs]=(bif an 3 n (ad 3 ts)&&an 6 m (ad 6 ps)&&ab.go n O m U then (bif ab.gt n O m U then some (.val (.bool true)) else (bif an 3 I (ad 3 us)&&an 6 G (ad 6 qs)&&ab.go I J G M then (bif ab.gt I J G M then some (.val (.bool true)) else (bif an 3 n (ad 3 ts)&&an 6 m (ad 6 ps)&&aE&&Z.jo n O m U I J G M&& !decide (Z.je n O U J M=0) then (bif an 3 n (ad 3 ts)&&an 6 m (ad 6 ps)&&aE&&Z.jo n O m U I J G M&& !decide (Z.je n O U J M=0) then (bif an 3 n (ad 3 ts)&&an 6 m (ad 6 ps)&&aE&&L.ln n O m U I J G M then (bif an 3 n (ad 3 ts)&&an 6 m (ad 6 ps)&&aE&&L.ln n O m U I J G M then (bif decide (Z.je n O U J M=Z.je n O U J M) then some (.val (.bool true)) else some (.val (.bool false))) else none) else none) else none) else none)) else none)) else none)):=by kernel_rfl
theorem agY (Z:Gg) (B:Bg) (n:Nat) (ts:List Value) (m:Nat) (ps:List Value) (I:Nat) (us:List Value) (G:Nat) (qs:List Value):letI ab:=(an 3 I (ad 3 us)&&an 6 G (ad 6 qs));letI J:=(ag 3 I (ad 3 us));letI M:=(ag 6 G (ad 6 qs));letI O:=(ag 3 n (ad 3 ts));letI U:=(ag 6 m (ad 6 ps));
  (aF Tryz.prog ⟨o7 Z (AQ B),au,aq⟩ 10 10 6 [aW n ts m ps,aW I us G qs]=(bif an 3 n (ad 3 ts)&&an 6 m (ad 6 ps)&&Z.go n O m U then (bif Z.gt n O m U then some (.val (.bool true)) else (bif an 3 I (ad 3 us)&&an 6 G (ad 6 qs)&&Z.go I J G M then (bif Z.gt I J G M then some (.val (.bool true)) else (bif an 3 n (ad 3 ts)&&an 6 m (ad 6 ps)&&ab&&B.ba n O m U I J G M then (bif an 3 n (ad 3 ts)&&an 6 m (ad 6 ps)&&ab&&B.ba n O m U I J G M then (bif an 3 n (ad 3 ts)&&an 6 m (ad 6 ps)&&ab&&B.ba n O m U I J G M then (bif an 3 n (ad 3 ts)&&an 6 m (ad 6 ps)&&ab&&B.ba n O m U I J G M then some (.val (.bool true)) else none) else none) else none) else none)) else none)) else none)):=by kernel_rfl
end
end Go.Proofs.YtamcpiicmfielaaGreat.L
namespace Go.Proofs.YtamcpiicmfielaaGreat.L
open Go Go.V Go.RowKit Go.Proofs.YtamcpiicmfielaaGreat.Sp
open Go.Proofs (Tryz.prog)
noncomputable section
theorem Yf:Entry Tryz.prog 34 (sP ij):=by
 refine gV (by kernel_rfl) (fun args r h=> ?_)
 unfold sP at h
 split at h
 ·rename_i fl n f b4 m g b5 G I b6 aE Z
  simp only [Option.some.injEq,Prod.mk.injEq,Bool.and_eq_true] at h
  obtain ⟨⟨⟨⟨a1,a6⟩,a7,bx⟩,J⟩,rfl⟩:=h
  obtain ⟨J,ab⟩:= @of_decide_eq_true _ (Classical.propDecidable _) J
  refine ⟨⟨nO aX af,au,q9 mO fJ (xe rp kp aq)⟩,10,10,_,sX (bM n (ag 3 n f) G (ag 3 G I)),AW,(J6 (Sq aB.none)).ok, ?_,bc.cons (dM a1 a6) (bc.cons (dM a7 bx) (bc.refl _)),bE.refl _⟩
  have l1:=bI 3 n f
  have l2:=bI 6 m g
  have U:=bI 3 G I
  have b3:=bI 6 aE Z
  generalize ag 3 n f=ts at*
  generalize ag 6 m g=ps at*
  generalize ag 3 G I=us at*
  generalize ag 6 aE Z=qs at*
  obtain ⟨rfl,rfl,b1,b0,M,ca,O,cb⟩:=J
  have k1:=(db ca).2.1
  have b7:=(db cb).2.1
  have b2:=uF l1 M ca U O cb (Rat.le_of_lt ab)
  have bD:=MY l1 M ca U O cb ab
  obtain ⟨p,rfl⟩:∃ p,n=p+1:= ⟨n - 1,by omega⟩
  obtain ⟨r,rfl⟩:∃ r,G=r+1:= ⟨G - 1,by omega⟩
  exact adJ p r ts ps us qs l1 l2 U b3 M ca O cb b1 b0 b2 bD.two
 ·cases h
theorem Ye:Entry Tryz.prog 34 (GR ij):=by
 refine gV (by kernel_rfl) (fun args r h=> ?_)
 unfold GR at h
 split at h
 ·rename_i c6 I
  unfold wE at I
  split at I
  ·rename_i fl n f b2 m g b3 G M b4 J O
   simp only [Option.some.injEq,Prod.mk.injEq] at h I
   subst I
   obtain ⟨a6,rfl⟩:=h
   simp only [Bool.and_eq_true] at a6
   obtain ⟨⟨⟨b5,b6⟩,b7,ch⟩,aE⟩:=a6
   obtain ⟨aE,c4⟩:= @of_decide_eq_true _ (Classical.propDecidable _) aE
   have a7:bc [.agg [.lst fl 27 n f, .lst b2 35 m g], .agg [.lst b3 27 G M, .lst b4 35 J O]] [aW n (ag 3 n f) m (ag 6 m g),aW G (ag 3 G M) J (ag 6 J O)]:=bc.cons (dM b5 b6) (bc.cons (dM b7 ch) (bc.refl []))
   have l1:=bI 3 n f
   have l2:=bI 6 m g
   have ab:=bI 3 G M
   have b1:=bI 6 J O
   generalize ag 3 n f=ts at*
   generalize ag 6 m g=ps at*
   generalize ag 3 G M=us at*
   generalize ag 6 J O=qs at*
   obtain ⟨rfl,rfl,b0,bD,U,ca,Z,cb⟩:=aE
   have k1:=(db ca).2.1
   have c5:=(db cb).2.1
   by_cases bx:bN ts us=bK n ts G us
   ·have c0:=uF l1 U ca ab Z cb (by rw [bx];exact Rat.le_refl)
    have ct:=MZ l1 U ca ab Z cb bx
    obtain ⟨p,rfl⟩:∃ p,n=p+1:= ⟨n - 1,by omega⟩
    obtain ⟨r,rfl⟩:∃ r,G=r+1:= ⟨G - 1,by omega⟩
    obtain ⟨x,a1⟩:=adI p r ts ps us qs l1 l2 ab b1 U ca Z cb b0 bD c0 ct
    exact ⟨_,10,10,_,_,AW,(J6 (Sn aB.none)).ok,a1,a7,yH⟩
   ·have c3:=LY (S:=qt (ts ++ us)) (N:=n+G) (lo:=bN ts us) (hi:=bK n ts G us) (by grind)
    obtain ⟨p,rfl⟩:∃ p,n=p+1:= ⟨n - 1,by omega⟩
    obtain ⟨r,rfl⟩:∃ r,G=r+1:= ⟨G - 1,by omega⟩
    obtain ⟨x,a1⟩:=adH p r ts ps us qs l1 l2 ab b1 U ca Z cb b0 bD c3
    exact ⟨_,10,10,_,_,AW,(Si aB.none).ok,a1,a7,yH⟩
  ·cases I
 ·cases h
theorem tg {E:FuncId→TF} (h:bf Tryz.prog E):bf Tryz.prog (o7 ft E):=(h.add Xz).add XG
theorem Ip {E:FuncId→TF} (h:bf Tryz.prog E):bf Tryz.prog (AT sG e9 E):=((h.add Yo).add Yc).add XL
theorem Ir {E:FuncId→TF} (h:bf Tryz.prog E):bf Tryz.prog (AU e9 E):=((h.add LH).add Yb).add XK
theorem Iu:bf Tryz.prog (AZ ij rC):=(((aJ _).add XE).add Yf).add XQ
theorem Is:bf Tryz.prog (AY ij):=((aJ _).add Ye).add XP
theorem Rq:bf Tryz.prog (AQ mJ):=(((((aJ _).add Yd).add XO).add LH).add Ya).add XJ
theorem ab0 {n:Nat} {ts ps:List Value} (M:n≤1000) (h:bj n ts n ps=true):ef n ts=true∧dp n ps=true:=by
 obtain ⟨I,J⟩:=pQ h
 constructor
 ·unfold ef
  rw [Bool.and_eq_true,decide_eq_true_eq]
  exact ⟨by omega,List.all_eq_true.2 fun j G=>by have:=I j (List.mem_range.1 G);unfold c8 at this;exact (Bool.and_eq_true _ _ ▸ this).1⟩
 ·unfold dp
  rw [Bool.and_eq_true,decide_eq_true_eq]
  exact ⟨by omega,List.all_eq_true.2 fun j G=>by have:=J j (List.mem_range.1 G);unfold dd at this;exact (Bool.and_eq_true _ _ ▸ this).1⟩
theorem abX {S:Nat→Rat} {k i:Nat} (hi:i < k):di (bO S k) i=true:=by
 have h:∀ q,q < 6→(bO S k).getD (i*6+q) undef= [Value.bool (af.qn (S i)), .string (af.qs (S i)), .string (af.qd (S i)), .bool (af.qn (S (i+1))), .string (af.qs (S (i+1))), .string (af.qd (S (i+1)))].getD q undef:=fun q M=>by
  induction k with
  | zero=>omega
  | succ k J=>
   have I:=qo S k
   unfold bO
   rw [List.getD_eq_getElem?_getD]
   by_cases G:i=k
   ·subst G
    rw [List.getElem?_append_right (by omega),I,Nat.add_sub_cancel_left,← List.getD_eq_getElem?_getD]
   ·rw [List.getElem?_append_left (by omega),← List.getD_eq_getElem?_getD]
    exact J (by omega)
 unfold di
 rw [h 0 (by omega),h 1 (by omega),h 2 (by omega),h 3 (by omega),h 4 (by omega),h 5 (by omega)]
 rfl
theorem ab6 (C:List Rat) (h:C.length≤1000):dp (C.length - 1) (ig C)=true:=by
 unfold dp
 rw [Bool.and_eq_true,decide_eq_true_eq]
 exact ⟨by omega,List.all_eq_true.2 fun j G=>abX (List.mem_range.1 G)⟩
theorem aci {ps qs:List Value} {i j:Nat} (h:mb ps i qs j=true):px ps i=px qs j∧py ps i=py qs j:=by
 unfold mb at h
 simp only [Bool.and_eq_true,beq_iff_eq,oQ,and_true,decide_eq_true_eq] at h
 obtain ⟨⟨G,I,J⟩,M,O,U⟩:=h
 unfold px py wa
 rw [G,I,J,M,O,U]
 exact ⟨rfl,rfl⟩
theorem MH {n:Nat} {ts ps:List Value} {G:Nat} {us qs:List Value} (l1:ts.length=n*3) (l2:ps.length=n*6) (bx:us.length=G*3) (bD:qs.length=G*6) (a6:bj n ts n ps=true) (ca:aS n ts n ps=0) (a7:bj G us G qs=true) (cb:aS G us G qs=0) (lim:n+G≤1000) (I:fA n ts ps us qs=0):
  sG.sm (n+G - dJ n ts us) (bA 3 (dJ n ts us) ts us) (n+G - dJ n ts us) (bA 6 (dJ n ts us) ps qs) (n+G - dJ n ts us) (bA 3 (dJ n ts us) ts us) (n+G - dJ n ts us) (bA 6 (dJ n ts us) ps qs)=true∧dJ n ts us≤1∧(bA 3 (dJ n ts us) ts us).length=(n+G - dJ n ts us)*3∧(bA 6 (dJ n ts us) ps qs).length=(n+G - dJ n ts us)*6:=by
 have b0:=(db cb).2.1
 have U:mb ps (n - 1) qs 0=true:=Classical.byContradiction fun h=>by
  unfold fA at I
  rw [if_neg h] at I
  cases I
 have ab:¬ qt us 0 < qt ts (n - 1):=fun h=>by
  unfold fA at I
  rw [if_pos U,if_pos h] at I
  cases I
 obtain ⟨aE,a1⟩:=aci U
 have O:=Zw l1 l2 a6 ca a7 cb lim aE a1 ab
 have Z:=O.d1
 obtain ⟨j1,j2⟩:=O.ok ca cb
 have J:=oz (sz:=3) (d:=dJ n ts us) l1 bx
 have M:=oz (sz:=6) (d:=dJ n ts us) l2 bD
 rw [show n+(G - dJ n ts us)=n+G - dJ n ts us by omega] at J M
 obtain ⟨q1,q2⟩:=ab0 (by omega) j1
 exact ⟨aeO q1 q2,Z,J,M⟩
theorem ag5 (n:Nat) (ts:List Value) (m:Nat) (ps:List Value) (l1:ts.length=n*3) (ct:ef n ts=true) (l2:ps.length=m*6) (c0:dp m ps=true) (G:Nat) (us:List Value) (I:Nat) (qs:List Value) (b4:us.length=G*3) (c3:ef G us=true) (b5:qs.length=I*6) (c4:dp I qs=true):
  ∃ E:Env,bf Tryz.prog E.C∧dh Tryz.prog E∧aF Tryz.prog E 10 10 6 [aW n ts m ps,aW G us I qs]=some (.val (.bool true)):=by
 have M:=ag4 ft sG e9 ij rC n ts m ps G us I qs
 have O:=ag3 ft sG e9 ij n ts m ps G us I qs
 have Z:=ag1 ft e9 ij rC n ts m ps G us I qs
 have ab:=agZ ft e9 ij n ts m ps G us I qs
 have J:=agY ft mJ n ts m ps G us I qs
 have k1:bf Tryz.prog (o7 ft (AQ mJ)):=tg Rq
 have c5:ft.go n ts m ps=true:=by show (ef n ts&&dp m ps)=true;rw [ct,c0];rfl
 have c6:ft.go G us I qs=true:=by show (ef G us&&dp I qs)=true;rw [c3,c4];rfl
 simp only [aZ l1,aZ l2,aZ b4,aZ b5,bV,c5,c6,decide_true] at M O Z ab J
 by_cases b1:mS n ts m ps=true
 ·rw [show ft.gt n ts m ps=true from b1] at J;exact ⟨_,k1,aN,J⟩
 have aE:=PW ct c0 b1
 rw [show ft.gt n ts m ps=false from Bool.eq_false_iff.2 b1] at M O Z ab J
 by_cases b2:mS G us I qs=true
 ·rw [show ft.gt G us I qs=true from b2] at J;exact ⟨_,k1,aN,J⟩
 have a1:=PW c3 c4 b2
 rw [show ft.gt G us I qs=false from Bool.eq_false_iff.2 b2] at M O Z ab J
 by_cases ch:aS n ts m ps=0∧aS G us I qs=0
 case neg=>
  have hb:mJ.ba n ts m ps G us I qs=true:=by
   show tw n ts m ps G us I qs=true
   unfold tw
   rw [aE.ko,a1.ko,Bool.true_and,Bool.true_and,Bool.not_eq_true',Bool.and_eq_false_iff,decide_eq_false_iff_not,decide_eq_false_iff_not]
   exact Classical.not_and_iff_not_or_not.1 ch
  rw [hb] at J
  exact ⟨_,k1,aN,J⟩
 obtain ⟨a6,a7⟩:=ch
 obtain ⟨rfl,ep,eg,_⟩:=db a6
 obtain ⟨rfl,et,eh,_⟩:=db a7
 have eo:=aE.lim
 have en:=a1.lim
 have b0:uE n ts n ps G us G qs:= ⟨rfl,rfl,by omega,by omega,aE.ko,a6,a1.ko,a7⟩
 have b6:e9.jo n ts n ps G us G qs=true:= @decide_eq_true _ (Classical.propDecidable _) b0
 have dx:(bM n ts G us).length≤1000:=by
  have c7:=zS (qt (ts ++ us)) (bN ts us) (bK n ts G us) (n+G)
  rw [Fo] at c7
  show (cI _ _ _ _).length≤1000
  omega
 have ed:(ig (bM n ts G us)).length=((bM n ts G us).length - 1)*6:=DZ _
 have ea:rC.er ((bM n ts G us).length - 1) (ig (bM n ts G us)) ((bM n ts G us).length - 1) (ig (bM n ts G us))=true:=YE (ab6 _ dx)
 by_cases b7:bN ts us < bK n ts G us
 ·have ec:ij.lo n ts n ps G us G qs=true:= @decide_eq_true _ (Classical.propDecidable _) ⟨b0,b7⟩
  simp only [show ij.lc n ts G us=(bM n ts G us).length - 1 from rfl,show ij.lr n ts G us=ig (bM n ts G us) from rfl,aZ ed,ea,ec,b6,bV] at M Z
  by_cases U:fA n ts ps us qs=0
  ·obtain ⟨b3,dy,bx,bD⟩:=MH l1 l2 b4 b5 aE.ko a6 a1.ko a7 (by omega) U
   simp only [show e9.jd n ts us=dJ n ts us from rfl,aZ bx,aZ bD,bV,b3] at M
   rw [dT (show e9.je n ts ps us qs=0 from U)] at M
   exact ⟨_,tg (Ip Iu),aN,M⟩
  ·rw [dF (show ¬ e9.je n ts ps us qs=0 from U)] at Z
   exact ⟨_,tg (Ir Iu),aN,Z⟩
 ·have eb:ij.ln n ts n ps G us G qs=true:= @decide_eq_true _ (Classical.propDecidable _) ⟨b0,b7⟩
  simp only [eb,b6] at O ab
  by_cases U:fA n ts ps us qs=0
  ·obtain ⟨b3,dy,bx,bD⟩:=MH l1 l2 b4 b5 aE.ko a6 a1.ko a7 (by omega) U
   simp only [show e9.jd n ts us=dJ n ts us from rfl,aZ bx,aZ bD,bV,b3] at O
   rw [dT (show e9.je n ts ps us qs=0 from U)] at O
   exact ⟨_,tg (Ip Is),aN,O⟩
  ·rw [dF (show ¬ e9.je n ts ps us qs=0 from U)] at ab
   exact ⟨_,tg (Ir Is),aN,ab⟩
theorem ag7 (n:Nat) (ts:List Value) (m:Nat) (ps:List Value) (l1:ts.length=n*3) (aE:ef n ts=true) (l2:ps.length=m*6) (a1:dp m ps=true) (I:Nat) (us:List Value) (G:Nat) (qs:List Value) (Z:us.length=I*3) (a6:ef I us=true) (ab:qs.length=G*6) (a7:dp G qs=true) (W:World) (v:Value) (U:(aW n ts m ps).Rel Tryz.prog cw (fun _=>False) W bo v) (u:Value) (O:(aW I us G qs).Rel Tryz.prog cw (fun _=>False) W bo u):Calls Tryz.prog 6 #[v,u] W fun e w'=>e= .returned (.bool true)∧Below W.heap.size W w':=by
 obtain ⟨E,J,M,h⟩:=ag5 n ts m ps l1 aE l2 a1 I us G qs Z a6 ab a7
 exact ZI J M (by kernel_rfl) h W ⟨_,_,rfl,U,_,_,rfl,O,rfl⟩
end
end Go.Proofs.YtamcpiicmfielaaGreat.L
