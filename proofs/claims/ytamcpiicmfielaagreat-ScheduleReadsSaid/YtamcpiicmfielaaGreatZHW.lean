import Derived.Test.YtamcpiicmfielaaGreatZHZ
set_option linter.unusedVariables false
set_option linter.unusedSimpArgs false
namespace Go.Proofs.YtamcpiicmfielaaGreat.L
open Go Go.V Go.RowKit Go.Proofs.YtamcpiicmfielaaGreat.Sp
open Go.Proofs (Tryz.prog)
noncomputable section
def vQ (G:Cg) (V:Vg) (j:Qg):FuncId→TF:=an 18 (eE G) (an 49 (ma j) (an 50 (rD V j) aF))
theorem QZ (J:Cg) (V:Vg) (j:Qg) (n:Nat) (ts:List Value) (m:Nat) (ps:List Value) (xb:Bool) (xn xd:BA):letI G:=(af (3:Nat) n (ag (3:Nat) ts));letI I:=(af (6:Nat) m (ag (6:Nat) ps));
  (aD Tryz.prog ⟨vQ J V j,ar,aq⟩ 10 10 12 [bH n ts m ps,w3 xb xn xd]=(bif au (3:Nat) n (ag (3:Nat) ts)&&au (6:Nat) m (ag (6:Nat) ps)&&J.ko n G m I then (bif !decide (J.ck n G m I=(0:Int)) then some (.tup [(.agg [(.val (.bool false)),(.val (.string (ByteArray.mk #[]))),(.val (.string (ByteArray.mk #[]))),(.val (.bool false)),(.val (.string (ByteArray.mk #[]))),(.val (.string (ByteArray.mk #[])))]),(.val (.int .i64 1))]) else (bif j.ok xn xd then (bif !decide (j.ck xb xn xd=(0:Int)) then some (.tup [(.agg [(.val (.bool false)),(.val (.string (ByteArray.mk #[]))),(.val (.string (ByteArray.mk #[]))),(.val (.bool false)),(.val (.string (ByteArray.mk #[]))),(.val (.string (ByteArray.mk #[])))]),(.val (.int .i64 1))]) else (bif au (3:Nat) n (ag (3:Nat) ts)&&au (6:Nat) m (ag (6:Nat) ps)&&V.pk n G m I xn xd then some (.tup [(.agg [(.val (.bool (j.qn (V.nM n G I (j.qv xb xn xd))))),(.val (.string (j.qs (V.nM n G I (j.qv xb xn xd))))),(.val (.string (j.qd (V.nM n G I (j.qv xb xn xd))))),(.val (.bool (j.qn (V.nN n G I (j.qv xb xn xd))))),(.val (.string (j.qs (V.nN n G I (j.qv xb xn xd))))),(.val (.string (j.qd (V.nN n G I (j.qv xb xn xd)))))]),(.val (.int .i64 0))]) else none)) else none)) else none)):=by kernel_rfl
structure Ag where
 ak:Nat→List Value→Nat→List Value→BA→BA→Bool
 ae:Nat→List Value→Nat→List Value→Bool→BA→BA→Int
 ax:Nat→List Value→Nat→List Value→Bool→BA→BA→Rat
 ay:Nat→List Value→Nat→List Value→Bool→BA→BA→Rat
def ia (n:Nat) (ts:List Value) (m:Nat) (ps:List Value) (xb:Bool) (xn xd:BA):Int:=if bJ n ts m ps=0∧ad.ck xb xn xd=0 then 0 else 1
def cw:Ag where
 ak n ts m ps xn xd:=cW n ts m ps&&bo xn xd
 ae:=ia
 ax n ts m ps xb xn xd:=if ia n ts m ps xb xn xd=0 then bq n ts (px ps) (ad.qv xb xn xd) else 0
 ay n ts m ps xb xn xd:=if ia n ts m ps xb xn xd=0 then bq n ts (py ps) (ad.qv xb xn xd) else 0
def rA (A:Ag) (j:Qg):TF:=fun args=>match args with
 | [.agg [.lst _ 27 n f, .lst _ 35 m g], .agg [.val (.bool xb), .val (.string xn), .val (.string xd)]]=>some (au 3 n f&&au 6 m g&&A.ak n (af 3 n f) m (af 6 m g) xn xd, .tup [j.pair (A.ax n (af 3 n f) m (af 6 m g) xb xn xd) (A.ay n (af 3 n f) m (af 6 m g) xb xn xd), .val (.int .i64 (A.ae n (af 3 n f) m (af 6 m g) xb xn xd))])
 | _=>none
theorem nm {n:Nat} {ts:List Value} {m:Nat} {ps:List Value} (h:bJ n ts m ps=0):n=m∧0 < n∧n≤1000∧∀ j,j < n→bE ts ps j=0:=by
 unfold bJ at h
 split at h
 ·cases h
 ·rename_i G
  split at h
  ·cases h
  ·split at h
   ·cases h
   ·exact ⟨Classical.not_not.1 G,by omega,by omega,BB h⟩
theorem tQ {n:Nat} {ts:List Value} {m:Nat} {ps:List Value} (N:cW n ts m ps=true) (h:bJ n ts m ps=0):c9 n ts m ps:=by
 obtain ⟨rfl,J,M,I⟩:=nm h
 obtain ⟨S,O⟩:=nE N
 refine ⟨rfl,J, ⟨M,S,fun G j=> ?_⟩,O,fun G j=>(ss (I G j)).2.1⟩
 have:=(ss (I (G+1) j)).2.2 (by omega)
 rw [BJ,Nat.add_sub_cancel] at this
 exact Classical.not_not.1 this
theorem PA:bb Tryz.prog (vQ aW cC ad):=(((aH _).add VA).add oz).add nv
theorem L5:ad.pair 0 0= .agg [.val (.bool false), .val (.string (ByteArray.mk #[])), .val (.string (ByteArray.mk #[])), .val (.bool false), .val (.string (ByteArray.mk #[])), .val (.string (ByteArray.mk #[]))]:=by
 unfold Qg.pair
 rw [uY,u5,uX]
theorem Q0 (n:Nat) (ts:List Value) (m:Nat) (ps:List Value) (xb:Bool) (xn xd:BA) (l1:ts.length=n*3) (l2:ps.length=m*6) (G:cw.ak n ts m ps xn xd=true):
  aD Tryz.prog ⟨vQ aW cC ad,ar,aq⟩ 10 10 12 [bH n ts m ps,w3 xb xn xd]=some (.tup [ad.pair (cw.ax n ts m ps xb xn xd) (cw.ay n ts m ps xb xn xd), .val (.int .i64 (cw.ae n ts m ps xb xn xd))]):=by
 have G:(cW n ts m ps&&bo xn xd)=true:=G
 rw [Bool.and_eq_true] at G
 obtain ⟨k1,S⟩:=G
 rw [QZ,bc l1,bc l2,bn,bn,show aW.ko n ts m ps=true from k1,cy S]
 by_cases h:ia n ts m ps xb xn xd=0
 ·have M:cw.ax n ts m ps xb xn xd=bq n ts (px ps) (ad.qv xb xn xd):=if_pos h
  have N:cw.ay n ts m ps xb xn xd=bq n ts (py ps) (ad.qv xb xn xd):=if_pos h
  have J:cw.ae n ts m ps xb xn xd=0:=h
  rw [M,N,J]
  unfold ia at h
  split at h
  ·rename_i j
   have U:cC.pk n ts m ps xn xd=true:=by
    show mM n ts m ps xn xd=true
    unfold mM
    rw [@decide_eq_true _ (Classical.propDecidable _) (tQ k1 j.1),S];rfl
   rw [dT (show aW.ck n ts m ps=0 from j.1),dT j.2,U];rfl
  ·cases h
 ·have M:cw.ax n ts m ps xb xn xd=0:=if_neg h
  have N:cw.ay n ts m ps xb xn xd=0:=if_neg h
  have J:cw.ae n ts m ps xb xn xd=1:=by
   show ia n ts m ps xb xn xd=1
   unfold ia at h ⊢
   split <;> rename_i j
   ·rw [if_pos j] at h;exact absurd rfl h
   ·rfl
  rw [M,N,J,L5]
  by_cases I:bJ n ts m ps=0
  ·by_cases O:ad.ck xb xn xd=0
   ·exact absurd (by unfold ia;rw [if_pos ⟨I,O⟩]) h
   ·rw [dT (show aW.ck n ts m ps=0 from I),dF O];rfl
  ·rw [dF (show ¬ aW.ck n ts m ps=0 from I)];rfl
theorem BO:Entry Tryz.prog 12 (rA cw ad):=by
 refine dI (by kernel_rfl) (fun args r h=> ?_)
 unfold rA at h
 split at h
 ·rename_i fl n f J m g xb xn xd
  simp only [Option.some.injEq,Prod.mk.injEq,Bool.and_eq_true] at h
  obtain ⟨⟨⟨j,G⟩,I⟩,rfl⟩:=h
  exact ⟨⟨vQ aW cC ad,ar,aq⟩,10,10,_,_,PA,aK,Q0 n _ m _ xb xn xd (bP 3 n f) (bP 6 m g) I,ba.cons (fE j G) (ba.refl _),bu.refl _⟩
 ·cases h
end
end Go.Proofs.YtamcpiicmfielaaGreat.L
namespace Go.Proofs.YtamcpiicmfielaaGreat.L
open Go Go.V Go.RowKit Go.Proofs.YtamcpiicmfielaaGreat.Sp
open Go.Proofs (Tryz.prog)
noncomputable section
def jl (ts:List Value) (j:Nat):Bool:=a8.gr (ah (ts.getD (j*3+1) undef)) (ah (ts.getD (j*3+2) undef))
abbrev dW:List Bool:= [false,true,false,true]
def eA (r:Bool) (i:Int) (n:Nat) (ts:List Value) (m:Nat) (ps:List Value):List AV:=av 38 [(1, .ptr 0 0),(2, .val (.bool r)),(3, .val (.int .i64 i))]
def dM (r:Bool) (i:Int) (n:Nat) (ts:List Value) (m:Nat) (ps:List Value):Hp:= [.row (.cells [.lst false 27 n (ag 3 ts), .lst false 35 m (ag 6 ps)]) 25 .live]
theorem Rg:aJ Tryz.prog 7 dW=some (.loop (lb 7 dW)):=by kernel_rfl
theorem SS:aJ Tryz.prog 7 (false :: dW)=some (lb 7 dW):=by kernel_rfl
theorem Ej (K:Hg) (r:Bool) (i:Int) (n:Nat) (ts:List Value) (m:Nat) (ps:List Value):aN Tryz.prog (wa K) 7 [1,2,3] (lb 7 dW) (false :: dW) (eA r i n ts m ps) (dM r i n ts m ps)=
  (bif decide (i < (↑n:Int)) then (bif decide ((0:Int)≤i)&&decide (i < (↑n:Int)) then (bif aS (ts.getD (i.toNat*(3:Nat)+(0:Nat)) undef) (ts.getD (i.toNat*(3:Nat)+(1:Nat)) undef) (ts.getD (i.toNat*(3:Nat)+(2:Nat)) undef)&&true then (bif K.gr (ah (ts.getD (i.toNat*(3:Nat)+(1:Nat)) undef)) (ah (ts.getD (i.toNat*(3:Nat)+(2:Nat)) undef)) then some (.ret,av 38 [(1,(.ptr 0 0)),(2,(.val (.bool true))),(3,(.val (.int .i64 i)))], [(.row (.cells [(.lst false 27 n (ag (3:Nat) ts)),(.lst false 35 m (ag (6:Nat) ps))]) 25 .live)]) else (bif aj IntKind.i64 (i+(1:Int)) then some (.normal,av 38 [(1,(.ptr 0 0)),(2,(.val (.bool r))),(3,(.val (.int .i64 (i+(1:Int)))))], [(.row (.cells [(.lst false 27 n (ag (3:Nat) ts)),(.lst false 35 m (ag (6:Nat) ps))]) 25 .live)]) else none)) else none) else none) else some ((.exit 0),av 38 [(1,(.ptr 0 0)),(2,(.val (.bool r))),(3,(.val (.int .i64 i)))], [(.row (.cells [(.lst false 27 n (ag (3:Nat) ts)),(.lst false 35 m (ag (6:Nat) ps))]) 25 .live)])):=by kernel_rfl
theorem E5 {r:Bool} {i:Int} {n:Nat} {ts:List Value} {m:Nat} {ps:List Value} {e:Ex} {T:List AV} {H:Hp} (h:aN Tryz.prog (wa a8) 7 [1,2,3] (lb 7 dW) (false :: dW) (eA r i n ts m ps) (dM r i n ts m ps)=some (e,T,H)):V.Ends Tryz.prog false 0 0 (lb 7 dW) (eA r i n ts m ps) (dM r i n ts m ps) e T H:=
 bw ((aH _).add ta.gR) aK mixed SS h
section
variable {r : Bool} {n m : Nat} {ts ps : List Value}
theorem KP (i:Nat) (I:i < n) (J:n≤9223372036854775807) (h:cR ts i=true) (G:jl ts i=false):V.Ends Tryz.prog false 0 0 (lb 7 dW) (eA r i n ts m ps) (dM r i n ts m ps) .normal (eA r ((i+1:Nat):Int) n ts m ps) (dM r ((i+1:Nat):Int) n ts m ps):=by
 have j:=Ej a8 r i n ts m ps
 unfold cR at h
 unfold jl at G
 simp only [Int.toNat_natCast] at j
 rw [dT (show (i:Int) < (n:Int) by omega),dT (show (0:Int)≤(i:Int) by omega),h,G,aO (z:=(i:Int)+1) (by omega)] at j
 exact E5 j
theorem WS (i:Nat) (I:i < n) (h:cR ts i=true) (G:jl ts i=true):V.Ends Tryz.prog false 0 0 (lb 7 dW) (eA r i n ts m ps) (dM r i n ts m ps) .ret (eA true i n ts m ps) (dM true i n ts m ps):=by
 have j:=Ej a8 r i n ts m ps
 unfold cR at h
 unfold jl at G
 simp only [Int.toNat_natCast] at j
 rw [dT (show (i:Int) < (n:Int) by omega),dT (show (0:Int)≤(i:Int) by omega),h,G] at j
 exact E5 j
theorem WR (M:n≤9223372036854775807) (h:∀ j,j < n→cR ts j=true∧jl ts j=false) (k:Nat):∀ i:Nat,n=i+k→aw Tryz.prog (lb 7 dW) (eA r i n ts m ps) (dM r i n ts m ps) (.exit 0) (eA r n n ts m ps) (dM r n n ts m ps):=by
 induction k with
 | zero=>
  intro i J
  have:i=n:=by omega
  subst this
  refine .last (E5 ?_) (by intro h;cases h)
  rw [Ej,dF (show ¬ ((i:Nat):Int) < (i:Int) by omega)]
  rfl
 | succ k N=>
  intro i J
  obtain ⟨G,I⟩:=h i (by omega)
  exact .more (KP i (by omega) M G I) (N (i+1) (by omega))
theorem WU (N:n≤9223372036854775807) (h:∀ j,j < n→cR ts j=true) (q:Nat) (G:q < n) (J:∀ j,j < q→jl ts j=false) (I:jl ts q=true) (k:Nat):∀ i:Nat,q=i+k→aw Tryz.prog (lb 7 dW) (eA r i n ts m ps) (dM r i n ts m ps) .ret (eA true q n ts m ps) (dM true q n ts m ps):=by
 induction k with
 | zero=>
  intro i M
  have:i=q:=by omega
  subst this
  exact .last (WS i G (h i G) I) (by intro h;cases h)
 | succ k O=>
  intro i M
  exact .more (KP i (by omega) N (h i (by omega)) (J i (by omega))) (O (i+1) (by omega))
end
def uf (r:Bool) (i:Int) (n:Nat) (ts:List Value) (m:Nat) (ps:List Value):Prop:=i=0∧n≤9223372036854775807∧∀ j,j < n→cR ts j=true∧jl ts j=false
def Di (r:Bool) (i:Int) (n:Nat) (ts:List Value) (m:Nat) (ps:List Value) (ρ:Int):Prop:=True
theorem XN (r:Bool) (i:Int) (n:Nat) (ts:List Value) (m:Nat) (ps:List Value) (h:uf r i n ts m ps):∃ ρ:Int,aw Tryz.prog (lb 7 dW) (eA r i n ts m ps) (dM r i n ts m ps) (.exit 0) (eA r ρ n ts m ps) (dM r ρ n ts m ps)∧Di r i n ts m ps ρ:=by
 obtain ⟨rfl,j,h⟩:=h
 exact ⟨_,WR j h _ 0 (Nat.zero_add _).symm,trivial⟩
def F2 (J:Bool→Int→Nat→List Value→Nat→List Value→Bool) (I:Bool→Int→Nat→List Value→Nat→List Value→Int) (T:List AV) (H:Hp):Option (Bool×Ex×List AV×Hp):=
 match al T 1,al T 2,al T 3,H with
 | .ptr 0 0, .val (.bool r), .val (.int .i64 i), [.row (.cells [.lst false 27 n G, .lst false 35 m j]) 25 .live]=>bif T.length==38 then some (au 3 n G&&au 6 m j&&J r i n (af 3 n G) m (af 6 m j), .exit 0,eA r ((I r i n (af 3 n G) m (af 6 m j))) n (af 3 n G) m (af 6 m j),dM r ((I r i n (af 3 n G) m (af 6 m j))) n (af 3 n G) m (af 6 m j)) else none
 | _,_,_,_=>none
abbrev Ir:Type:=Bool→Int→Nat→List Value→Nat→List Value→Bool
abbrev HN:Type:=Bool→Int→Nat→List Value→Nat→List Value→Int
def AU (j:Ir) (G:HN) (L:aE):aE:=bp 0 7 dW [1,2,3] (F2 j G) L
def qV (r:Bool) (i:Int) (n:Nat) (ts:List Value) (m:Nat) (ps:List Value):Int:=Classical.epsilon fun ρ=>aw Tryz.prog (lb 7 dW) (eA r i n ts m ps) (dM r i n ts m ps) (.exit 0) (eA r (ρ) n ts m ps) (dM r (ρ) n ts m ps)∧Di r i n ts m ps ρ
theorem Zk (r:Bool) (i:Int) (n:Nat) (ts:List Value) (m:Nat) (ps:List Value) (h:uf r i n ts m ps):aw Tryz.prog (lb 7 dW) (eA r i n ts m ps) (dM r i n ts m ps) (.exit 0) (eA r ((qV r i n ts m ps)) n ts m ps) (dM r ((qV r i n ts m ps)) n ts m ps)∧Di r i n ts m ps (qV r i n ts m ps):=Classical.epsilon_spec (XN r i n ts m ps h)
def wX (r:Bool) (i:Int) (n:Nat) (ts:List Value) (m:Nat) (ps:List Value):Bool:= @decide (uf r i n ts m ps) (Classical.propDecidable _)
theorem TO (r:Bool) (i:Int) (n:Nat) (ts:List Value) (m:Nat) (ps:List Value) (h:uf r i n ts m ps):wX r i n ts m ps=true:= @decide_eq_true _ (Classical.propDecidable _) h
theorem adi (T:List AV) (H:Hp) (e:Ex) (I:List AV) (G:Hp) (h:F2 wX qV T H=some (true,e,I,G)):V.Ends Tryz.prog false 0 0 (.loop (lb 7 dW)) T H e I G:=by
 unfold F2 at h
 split at h
 ·rename_i r i n O m N S U Z
  rw [Bool.cond_eq_ite] at h
  split at h
  ·rename_i J
   rw [beq_iff_eq] at J
   simp only [Option.some.injEq,Prod.mk.injEq,Bool.and_eq_true,decide_eq_true_eq] at h
   obtain ⟨⟨⟨k1,a1⟩,a2⟩,rfl,rfl,rfl⟩:=h
   have a3:= @of_decide_eq_true _ (Classical.propDecidable _) a2
   refine Ends.pre (Ends.cS (Zk r i n (af 3 n O) m (af 6 m N) a3).1.ends (aT.cons ⟨⟨rfl,fun _ _ _ _ _ ab=>ei (by kernel_rfl) (by kernel_rfl) k1 a1 ab⟩,rfl,rfl⟩ aT.nil)) (fun α B w D a4 a0=>bm J (fun p M y j=> ?_) a0)
   simp only [List.mem_cons,List.not_mem_nil,or_false] at M
   rcases M with rfl | rfl | rfl
   ·rw [S] at j;exact j
   ·rw [U] at j;exact j
   ·rw [Z] at j;exact j
  ·cases h
 ·cases h
theorem P9 {L:aE} (h:aB Tryz.prog L):aB Tryz.prog (AU wX qV L):=h.br Rg adi
abbrev oW:List Bool:= [false,true,false,true]
def po (r:Bool) (i:Int) (n:Nat) (ts:List Value) (m:Nat) (ps:List Value):List AV:=av 38 [(1, .ptr 0 0),(2, .val (.bool r)),(3, .val (.int .i64 i))]
def oG (r:Bool) (i:Int) (n:Nat) (ts:List Value) (m:Nat) (ps:List Value):Hp:= [.row (.cells [.lst false 27 n (ag 3 ts), .lst false 35 m (ag 6 ps)]) 25 .live]
theorem Rh:aJ Tryz.prog 7 oW=some (.loop (lb 7 oW)):=by kernel_rfl
def ug (r:Bool) (i:Int) (n:Nat) (ts:List Value) (m:Nat) (ps:List Value):Prop:=i=0∧n≤9223372036854775807∧(∀ j,j < n→cR ts j=true)∧∃ q,q < n∧(∀ j,j < q→jl ts j=false)∧jl ts q=true
def Dj (r:Bool) (i:Int) (n:Nat) (ts:List Value) (m:Nat) (ps:List Value) (ρ:Bool×Int):Prop:=ρ.1=true
theorem XO (r:Bool) (i:Int) (n:Nat) (ts:List Value) (m:Nat) (ps:List Value) (h:ug r i n ts m ps):∃ ρ:Bool×Int,aw Tryz.prog (lb 7 oW) (po r i n ts m ps) (oG r i n ts m ps) .ret (po ρ.1 ρ.2 n ts m ps) (oG ρ.1 ρ.2 n ts m ps)∧Dj r i n ts m ps ρ:=by
 obtain ⟨rfl,I,h,q,J,G,j⟩:=h
 exact ⟨(true,(q:Int)),WU I h q J G j q 0 (by omega),rfl⟩
def F3 (J:Bool→Int→Nat→List Value→Nat→List Value→Bool) (I:Bool→Int→Nat→List Value→Nat→List Value→Bool×Int) (T:List AV) (H:Hp):Option (Bool×Ex×List AV×Hp):=
 match al T 1,al T 2,al T 3,H with
 | .ptr 0 0, .val (.bool r), .val (.int .i64 i), [.row (.cells [.lst false 27 n G, .lst false 35 m j]) 25 .live]=>bif T.length==38 then some (au 3 n G&&au 6 m j&&J r i n (af 3 n G) m (af 6 m j), .ret,po ((I r i n (af 3 n G) m (af 6 m j)).1) ((I r i n (af 3 n G) m (af 6 m j)).2) n (af 3 n G) m (af 6 m j),oG ((I r i n (af 3 n G) m (af 6 m j)).1) ((I r i n (af 3 n G) m (af 6 m j)).2) n (af 3 n G) m (af 6 m j)) else none
 | _,_,_,_=>none
abbrev Is:Type:=Bool→Int→Nat→List Value→Nat→List Value→Bool
abbrev HO:Type:=Bool→Int→Nat→List Value→Nat→List Value→Bool×Int
def AW (j:Is) (G:HO) (L:aE):aE:=bp 0 7 oW [1,2,3] (F3 j G) L
def mC (r:Bool) (i:Int) (n:Nat) (ts:List Value) (m:Nat) (ps:List Value):Bool×Int:=Classical.epsilon fun ρ=>aw Tryz.prog (lb 7 oW) (po r i n ts m ps) (oG r i n ts m ps) (.ret) (po (ρ.1) (ρ.2) n ts m ps) (oG (ρ.1) (ρ.2) n ts m ps)∧Dj r i n ts m ps ρ
theorem Mj (r:Bool) (i:Int) (n:Nat) (ts:List Value) (m:Nat) (ps:List Value) (h:ug r i n ts m ps):aw Tryz.prog (lb 7 oW) (po r i n ts m ps) (oG r i n ts m ps) (.ret) (po ((mC r i n ts m ps).1) ((mC r i n ts m ps).2) n ts m ps) (oG ((mC r i n ts m ps).1) ((mC r i n ts m ps).2) n ts m ps)∧Dj r i n ts m ps (mC r i n ts m ps):=Classical.epsilon_spec (XO r i n ts m ps h)
def wY (r:Bool) (i:Int) (n:Nat) (ts:List Value) (m:Nat) (ps:List Value):Bool:= @decide (ug r i n ts m ps) (Classical.propDecidable _)
theorem TP (r:Bool) (i:Int) (n:Nat) (ts:List Value) (m:Nat) (ps:List Value) (h:ug r i n ts m ps):wY r i n ts m ps=true:= @decide_eq_true _ (Classical.propDecidable _) h
theorem adj (T:List AV) (H:Hp) (e:Ex) (I:List AV) (G:Hp) (h:F3 wY mC T H=some (true,e,I,G)):V.Ends Tryz.prog false 0 0 (.loop (lb 7 oW)) T H e I G:=by
 unfold F3 at h
 split at h
 ·rename_i r i n O m N S U Z
  rw [Bool.cond_eq_ite] at h
  split at h
  ·rename_i J
   rw [beq_iff_eq] at J
   simp only [Option.some.injEq,Prod.mk.injEq,Bool.and_eq_true,decide_eq_true_eq] at h
   obtain ⟨⟨⟨k1,a1⟩,a2⟩,rfl,rfl,rfl⟩:=h
   have a3:= @of_decide_eq_true _ (Classical.propDecidable _) a2
   refine Ends.pre (Ends.cS (Mj r i n (af 3 n O) m (af 6 m N) a3).1.ends (aT.cons ⟨⟨rfl,fun _ _ _ _ _ ab=>ei (by kernel_rfl) (by kernel_rfl) k1 a1 ab⟩,rfl,rfl⟩ aT.nil)) (fun α B w D a4 a0=>bm J (fun p M y j=> ?_) a0)
   simp only [List.mem_cons,List.not_mem_nil,or_false] at M
   rcases M with rfl | rfl | rfl
   ·rw [S] at j;exact j
   ·rw [U] at j;exact j
   ·rw [Z] at j;exact j
  ·cases h
 ·cases h
theorem Qa {L:aE} (h:aB Tryz.prog L):aB Tryz.prog (AW wY mC L):=h.br Rh adj
structure Gg where
 gt:Nat→List Value→Nat→List Value→Bool
 go:Nat→List Value→Nat→List Value→Bool
def nB (n:Nat) (ts:List Value) (m:Nat) (ps:List Value):Bool:=(List.range n).any (jl ts) ||(decide (10 < n)&&decide (n≤1000) ||decide (1005 < n)) ||oD m ps
def jk:Gg where
 gt:=nB
 go n ts m ps:=fI n ts&&jM m ps
def Fw (j:Gg):TF:=fun args=>match args with
 | [.agg [.lst _ 27 n f, .lst _ 35 m g]]=>some (au 3 n f&&au 6 m g&&j.go n (af 3 n f) m (af 6 m g), .val (.bool (j.gt n (af 3 n f) m (af 6 m g))))
 | _=>none
def rX (T:Tg):FuncId→TF:=an 36 (Fv T) aF
theorem WQ (T:Tg) (j:Ir) (G:HN) (n:Nat) (ts:List Value) (m:Nat) (ps:List Value):aD Tryz.prog ⟨rX T,ar,AU j G aq⟩ 10 10 7 [.agg [.lst false 27 n (ag 3 ts), .lst false 35 m (ag 6 ps)]]=
  (bif au (3:Nat) n (ag (3:Nat) ts)&&au (6:Nat) m (ag (6:Nat) ps)&&j false (0:Int) n (af (3:Nat) n (ag (3:Nat) ts)) m (af (6:Nat) m (ag (6:Nat) ps)) then (bif decide ((10:Int) < (↑n:Int)) then (bif decide ((↑n:Int)≤(1000:Int)) then some (.val (.bool true)) else (bif decide ((1005:Int) < (↑n:Int)) then some (.val (.bool true)) else (bif au (6:Nat) m (ag (6:Nat) (af (6:Nat) m (ag (6:Nat) ps)))&&T.lH m (af (6:Nat) m (ag (6:Nat) (af (6:Nat) m (ag (6:Nat) ps)))) then some (.val (.bool (T.gp m (af (6:Nat) m (ag (6:Nat) (af (6:Nat) m (ag (6:Nat) ps))))))) else none))) else (bif decide ((1005:Int) < (↑n:Int)) then some (.val (.bool true)) else (bif au (6:Nat) m (ag (6:Nat) (af (6:Nat) m (ag (6:Nat) ps)))&&T.lH m (af (6:Nat) m (ag (6:Nat) (af (6:Nat) m (ag (6:Nat) ps)))) then some (.val (.bool (T.gp m (af (6:Nat) m (ag (6:Nat) (af (6:Nat) m (ag (6:Nat) ps))))))) else none))) else none):=by kernel_rfl
theorem WT (T:Tg) (j:Is) (G:HO) (n:Nat) (ts:List Value) (m:Nat) (ps:List Value):aD Tryz.prog ⟨rX T,ar,AW j G aq⟩ 10 10 7 [.agg [.lst false 27 n (ag 3 ts), .lst false 35 m (ag 6 ps)]]=
  (bif au (3:Nat) n (ag (3:Nat) ts)&&au (6:Nat) m (ag (6:Nat) ps)&&j false (0:Int) n (af (3:Nat) n (ag (3:Nat) ts)) m (af (6:Nat) m (ag (6:Nat) ps)) then some (.val (.bool ((G false (0:Int) n (af (3:Nat) n (ag (3:Nat) ts)) m (af (6:Nat) m (ag (6:Nat) ps))).fst))) else none):=by kernel_rfl
theorem G2:bb Tryz.prog (rX kY):=(aH _).add Vp
theorem BR:Entry Tryz.prog 7 (Fw jk):=by
 refine dI (by kernel_rfl) (fun args r h=> ?_)
 unfold Fw at h
 split at h
 ·rename_i fl n f ab m g
  simp only [Option.some.injEq,Prod.mk.injEq,Bool.and_eq_true] at h
  obtain ⟨⟨⟨a0,a1⟩,j⟩,rfl⟩:=h
  have O:ba [.agg [.lst fl 27 n f, .lst ab 35 m g]] [.agg [.lst false 27 n (ag 3 (af 3 n f)), .lst false 35 m (ag 6 (af 6 m g))]]:=
   ba.cons (bu.agg (ba.cons (bu.row (by kernel_rfl) a0) (ba.cons (bu.row (by kernel_rfl) a1) (ba.refl _)))) (ba.refl _)
  have l1:=bP 3 n f
  have l2:=bP 6 m g
  generalize af 3 n f=ts at*
  generalize af 6 m g=ps at*
  have j:(fI n ts&&jM m ps)=true:=j
  rw [Bool.and_eq_true] at j
  obtain ⟨k1,a3⟩:=j
  obtain ⟨U,Z⟩:=C3 k1
  by_cases G:(List.range n).any (jl ts)=true
  ·have I:ug false 0 n ts m ps:= ⟨rfl,U,Z,xG n G⟩
   refine ⟨⟨rX kY,ar,AW wY mC aq⟩,10,10,_,_,G2,(Qa aB.none).ok, ?_,O,bu.refl _⟩
   have e:jk.gt n ts m ps=true:=by show nB n ts m ps=true;unfold nB;rw [G];rfl
   rw [WT,bn,bn,bc l1,bc l2,TP _ _ _ _ _ _ I,e,show (mC false 0 n ts m ps).fst=true from (Mj _ _ _ _ _ _ I).2];rfl
  ·have I:uf false 0 n ts m ps:= ⟨rfl,U,fun a2 S=> ⟨Z a2 S,none_lt G S⟩⟩
   refine ⟨⟨rX kY,ar,AU wX qV aq⟩,10,10,_,_,G2,(P9 aB.none).ok, ?_,O,bu.refl _⟩
   have e:jk.gt n ts m ps=((decide (10 < n)&&decide (n≤1000) ||decide (1005 < n)) ||kY.gp m ps):=by show nB n ts m ps=_;unfold nB;rw [Bool.eq_false_iff.2 G];rfl
   rw [WQ]
   simp only [bn,bc l1,bc l2,TO _ _ _ _ _ _ I,e,show kY.lH m ps=true from a3,Bool.and_self,cond_true]
   by_cases J:1005 < n
   ·rw [decide_eq_true J,dT (show (1005:Int) < (n:Int) by omega),dT (show (10:Int) < (n:Int) by omega),dF (show ¬ (n:Int)≤1000 by omega),Bool.or_true];rfl
   ·rw [decide_eq_false J,dF (show ¬ (1005:Int) < (n:Int) by omega)]
    by_cases M:10 < n
    ·rw [decide_eq_true M,dT (show (10:Int) < (n:Int) by omega)]
     by_cases N:n≤1000
     ·rw [decide_eq_true N,dT (show (n:Int)≤1000 by omega)];rfl
     ·rw [decide_eq_false N,dF (show ¬ (n:Int)≤1000 by omega)];rfl
    ·rw [decide_eq_false M,dF (show ¬ (10:Int) < (n:Int) by omega)];rfl
 ·cases h
end
end Go.Proofs.YtamcpiicmfielaaGreat.L
namespace Go.Proofs.YtamcpiicmfielaaGreat.L
open Go Go.V Go.RowKit Go.Proofs.YtamcpiicmfielaaGreat.Sp
open Go.Proofs (Tryz.prog)
noncomputable section
section
variable {at8 : Int} {r : Bool} {n : Nat} {ts ps : List Value} {xb : Bool} {xn xd : BA}
structure aey (n:Nat) (ts ps:List Value):Prop where
 l1:ts.length=n*3
 l2:ps.length=n*6
 ko:cW n ts n ps=true
 ck:bJ n ts n ps=0
end
end
end Go.Proofs.YtamcpiicmfielaaGreat.L
namespace Go.Proofs.YtamcpiicmfielaaGreat.L
open Go Go.V Go.RowKit Go.Proofs.YtamcpiicmfielaaGreat.Sp
open Go.Proofs (Tryz.prog)
noncomputable section
def v9 (j:Qg):Env:= ⟨an 29 (bM (nX j)) aF,ar,aq⟩
abbrev lJ:List Bool:= [false,true,false,true,true,true]
def j4 (er:Int) (n:Nat) (ts:List Value) (j:Int) (i:Int) (xb:Bool) (xn:ByteArray) (xd:ByteArray) (k:Nat) (pn:Nat) (G:List Value) (cs:List Value):List AV:=av 39 [(3, .ptr 0 0),(4, .ptr 1 0),(6, .ptr 2 0),(5, .val (.int .i64 er)),(23, .lst false 27 n (ag 3 ts)),(24, .val (.int .i64 j)),(25, .val (.int .i64 i))]
def jn (er:Int) (n:Nat) (ts:List Value) (G:Int) (i:Int) (xb:Bool) (xn:ByteArray) (xd:ByteArray) (k:Nat) (pn:Nat) (j:List Value) (cs:List Value):Hp:= [.row (.cells [.val (.bool xb), .val (.string xn), .val (.string xd)]) 27 .live, .row (.cells [.val (.slice none 0 0),.val (.slice none 0 0)]) 25 .live, .row (.cells [.sl false 27 3 0 k,.sl false 35 4 0 pn]) 25 .live, .row (.vals j) 27 .live, .row (.vals cs) 35 .live]
theorem SJ:aJ Tryz.prog 14 (false :: lJ)=some (lb 14 lJ):=by kernel_rfl
theorem M5 (j:Qg) (er:Int) (n:Nat) (ts:List Value) (G:Int) (i:Int) (xb:Bool) (xn:ByteArray) (xd:ByteArray) (k:Nat) (pn:Nat) (I:List Value) (cs:List Value):letI M:=(ts.getD (i.toNat*(3:Nat)+(1:Nat)) undef);letI N:=(ts.getD (i.toNat*(3:Nat)+(2:Nat)) undef);letI J:=(j.qv (aM (ts.getD (i.toNat*(3:Nat)+(0:Nat)) undef)) (ah M) (ah N)+j.qv xb xn xd);
  (aN Tryz.prog (v9 j) 14 [3,4,6,5,23,24,25] (lb 14 lJ) (false :: lJ) (j4 er n ts G i xb xn xd k pn I cs) (jn er n ts G i xb xn xd k pn I cs)=(bif decide (i < G) then (bif decide ((0:Int)≤i)&&decide (i < (↑n:Int)) then (bif [(fun q=>ag (3:Nat) ts i.toNat ((0:Nat)+q)) (nat_lit 0),(fun q=>ag (3:Nat) ts i.toNat ((0:Nat)+q)) (nat_lit 1),(fun q=>ag (3:Nat) ts i.toNat ((0:Nat)+q)) (nat_lit 2)].all eP then (bif aS (ts.getD (i.toNat*(3:Nat)+(0:Nat)) undef) M N&&true&&(j.ok (ah M) (ah N)&&j.ok xn xd) then (bif decide (k*(3:Nat)≤(aC.vals I).len)&&cA Tryz.prog (k+(1:Nat)) (27:Nat)&&true then (bif aj IntKind.i64 (i+(1:Int)) then some (.normal,av 39 [(3,(.ptr 0 0)),(4,(.ptr 1 0)),(5,(.val (.int .i64 er))),(6,(.ptr 2 0)),(23,(.lst false 27 n (ag (3:Nat) ts))),(24,(.val (.int .i64 G))),(25,(.val (.int .i64 (i+(1:Int)))))], [(.row (.cells [(.val (.bool xb)),(.val (.string xn)),(.val (.string xd))]) 27 .live),(.row (.cells [(.val (.slice .none 0 0)),(.val (.slice .none 0 0))]) 25 .live),(.row (.cells [(.sl false 27 3 0 (k+(1:Nat))),(.sl false 35 4 0 pn)]) 25 .live),(.row (.vals ((List.take (k*(3:Nat)) I) ++ ([(.bool (j.qn J)),(.string (j.qs J)),(.string (j.qd J))]:List Value))) 27 .live),(.row (.vals cs) 35 .live)]) else none) else none) else none) else none) else none) else some ((.exit 0),av 39 [(3,(.ptr 0 0)),(4,(.ptr 1 0)),(5,(.val (.int .i64 er))),(6,(.ptr 2 0)),(23,(.lst false 27 n (ag (3:Nat) ts))),(24,(.val (.int .i64 G))),(25,(.val (.int .i64 i)))], [(.row (.cells [(.val (.bool xb)),(.val (.string xn)),(.val (.string xd))]) 27 .live),(.row (.cells [(.val (.slice .none 0 0)),(.val (.slice .none 0 0))]) 25 .live),(.row (.cells [(.sl false 27 3 0 k),(.sl false 35 4 0 pn)]) 25 .live),(.row (.vals I) 27 .live),(.row (.vals cs) 35 .live)]))):=by kernel_rfl
theorem N8 {er:Int} {n:Nat} {ts:List Value} {j:Int} {i:Int} {xb:Bool} {xn:ByteArray} {xd:ByteArray} {k:Nat} {pn:Nat} {G:List Value} {cs:List Value} {e:Ex} {T:List AV} {H:Hp} (h:aN Tryz.prog (v9 ad) 14 [3,4,6,5,23,24,25] (lb 14 lJ) (false :: lJ) (j4 er n ts j i xb xn xd k pn G cs) (jn er n ts j i xb xn xd k pn G cs)=some (e,T,H)):V.Ends Tryz.prog false 0 0 (lb 14 lJ) (j4 er n ts j i xb xn xd k pn G cs) (jn er n ts j i xb xn xd k pn G cs) e T H:=
 bw ((aH _).add oy.bM) aK mixed SJ h
abbrev gK:List Bool:= [false,true,false,true,true,true]
def ph (er:Int) (n:Nat) (ts:List Value) (j:Int) (i:Int) (xb:Bool) (xn:ByteArray) (xd:ByteArray) (pn:Nat) (cs:List Value):List AV:=av 39 [(3, .ptr 0 0),(4, .ptr 1 0),(6, .ptr 2 0),(5, .val (.int .i64 er)),(23, .lst false 27 n (ag 3 ts)),(24, .val (.int .i64 j)),(25, .val (.int .i64 i))]
def oE (er:Int) (n:Nat) (ts:List Value) (j:Int) (i:Int) (xb:Bool) (xn:ByteArray) (xd:ByteArray) (pn:Nat) (cs:List Value):Hp:= [.row (.cells [.val (.bool xb), .val (.string xn), .val (.string xd)]) 27 .live, .row (.cells [.val (.slice none 0 0),.val (.slice none 0 0)]) 25 .live, .row (.cells [.val (.slice none 0 0),.sl false 35 3 0 pn]) 25 .live, .row (.vals cs) 35 .live]
theorem Q7:aJ Tryz.prog 14 gK=some (.loop (lb 14 gK)):=by kernel_rfl
theorem SH:aJ Tryz.prog 14 (false :: gK)=some (lb 14 gK):=by kernel_rfl
theorem aaJ (j:Qg) (er:Int) (n:Nat) (ts:List Value) (G:Int) (i:Int) (xb:Bool) (xn:ByteArray) (xd:ByteArray) (pn:Nat) (cs:List Value):letI J:=(ts.getD (i.toNat*(3:Nat)+(1:Nat)) undef);letI M:=(ts.getD (i.toNat*(3:Nat)+(2:Nat)) undef);letI I:=(j.qv (aM (ts.getD (i.toNat*(3:Nat)+(0:Nat)) undef)) (ah J) (ah M)+j.qv xb xn xd);
  (aN Tryz.prog (v9 j) 14 [3,4,6,5,23,24,25] (lb 14 gK) (false :: gK) (ph er n ts G i xb xn xd pn cs) (oE er n ts G i xb xn xd pn cs)=(bif decide (i < G) then (bif decide ((0:Int)≤i)&&decide (i < (↑n:Int)) then (bif [(fun q=>ag (3:Nat) ts i.toNat ((0:Nat)+q)) (nat_lit 0),(fun q=>ag (3:Nat) ts i.toNat ((0:Nat)+q)) (nat_lit 1),(fun q=>ag (3:Nat) ts i.toNat ((0:Nat)+q)) (nat_lit 2)].all eP then (bif aS (ts.getD (i.toNat*(3:Nat)+(0:Nat)) undef) J M&&true&&(j.ok (ah J) (ah M)&&j.ok xn xd) then (bif aj IntKind.i64 (i+(1:Int)) then some (.normal,av 39 [(3,(.ptr 0 0)),(4,(.ptr 1 0)),(5,(.val (.int .i64 er))),(6,(.ptr 2 0)),(23,(.lst false 27 n (ag (3:Nat) ts))),(24,(.val (.int .i64 G))),(25,(.val (.int .i64 (i+(1:Int)))))], [(.row (.cells [(.val (.bool xb)),(.val (.string xn)),(.val (.string xd))]) 27 .live),(.row (.cells [(.val (.slice .none 0 0)),(.val (.slice .none 0 0))]) 25 .live),(.row (.cells [(.sl false 27 3 0 1),(.sl false 35 4 0 pn)]) 25 .live),(.row (.cells [(.val (.bool (j.qn I))),(.val (.string (j.qs I))),(.val (.string (j.qd I)))]) 27 .live),(.row (.vals cs) 35 .live)]) else none) else none) else none) else none) else some ((.exit 0),av 39 [(3,(.ptr 0 0)),(4,(.ptr 1 0)),(5,(.val (.int .i64 er))),(6,(.ptr 2 0)),(23,(.lst false 27 n (ag (3:Nat) ts))),(24,(.val (.int .i64 G))),(25,(.val (.int .i64 i)))], [(.row (.cells [(.val (.bool xb)),(.val (.string xn)),(.val (.string xd))]) 27 .live),(.row (.cells [(.val (.slice .none 0 0)),(.val (.slice .none 0 0))]) 25 .live),(.row (.cells [(.val (.slice .none 0 0)),(.sl false 35 3 0 pn)]) 25 .live),(.row (.vals cs) 35 .live)]))):=by kernel_rfl
theorem acd {er:Int} {n:Nat} {ts:List Value} {j:Int} {i:Int} {xb:Bool} {xn:ByteArray} {xd:ByteArray} {pn:Nat} {cs:List Value} {e:Ex} {T:List AV} {H:Hp} (h:aN Tryz.prog (v9 ad) 14 [3,4,6,5,23,24,25] (lb 14 gK) (false :: gK) (ph er n ts j i xb xn xd pn cs) (oE er n ts j i xb xn xd pn cs)=some (e,T,H)):V.Ends Tryz.prog false 0 0 (lb 14 gK) (ph er n ts j i xb xn xd pn cs) (oE er n ts j i xb xn xd pn cs) e T H:=
 bw ((aH _).add oy.bM) aK mixed SH h
theorem yJ {m:Nat} (h:m≤2000):cA Tryz.prog m 27=true:=by
 have e:Tryz.prog.bytesOf 27=40:=by kernel_rfl
 unfold cA
 rw [e,decide_eq_true (show m*40≤140737488355328 by omega),decide_eq_true (show m≤9223372036854775807 by omega)];rfl
section
variable {er : Int} {n : Nat} {ts : List Value} {xb : Bool} {xn xd : BA} {pn : Nat} {cs : List Value}
theorem UP (S:n≤1000) (O:∀ j,j < n→cb ts j=true) (N:bo xn xd=true) (i:Nat) (M:i < n):V.Ends Tryz.prog false 0 0 (lb 14 lJ) (j4 er n ts (n:Int) i xb xn xd i pn (aP i (fun j=>qt ts j+ad.qv xb xn xd)) cs) (jn er n ts (n:Int) i xb xn xd i pn (aP i (fun j=>qt ts j+ad.qv xb xn xd)) cs) .normal (j4 er n ts (n:Int) ((i+1:Nat):Int) xb xn xd (i+1) pn (aP (i+1) (fun j=>qt ts j+ad.qv xb xn xd)) cs) (jn er n ts (n:Int) ((i+1:Nat):Int) xb xn xd (i+1) pn (aP (i+1) (fun j=>qt ts j+ad.qv xb xn xd)) cs):=by
 obtain ⟨I,J⟩:=cm (O i M)
 have G:=M5 ad er n ts (n:Int) i xb xn xd i pn (aP i (fun j=>qt ts j+ad.qv xb xn xd)) cs
 simp only [Int.toNat_natCast,Nat.zero_add,kT] at G
 rw [dT (show (i:Int) < (n:Int) by omega),dT (show (0:Int)≤(i:Int) by omega),yj (show cR ts i=true from I),I,cy J,cy N,yJ (show i+1≤2000 by omega),aO (z:=(i:Int)+1) (by omega),dT (show i*3≤(aC.vals (aP i (fun j=>qt ts j+ad.qv xb xn xd))).len from Nat.le_of_eq (eU i (fun j=>qt ts j+ad.qv xb xn xd)).symm),List.take_of_length_le (Nat.le_of_eq (eU i (fun j=>qt ts j+ad.qv xb xn xd)))] at G
 rw [qa i]
 exact N8 G
theorem UO (I:n≤1000) (M:∀ j,j < n→cb ts j=true) (J:bo xn xd=true) (k:Nat):∀ i:Nat,n=i+k→aw Tryz.prog (lb 14 lJ) (j4 er n ts (n:Int) i xb xn xd i pn (aP i (fun j=>qt ts j+ad.qv xb xn xd)) cs) (jn er n ts (n:Int) i xb xn xd i pn (aP i (fun j=>qt ts j+ad.qv xb xn xd)) cs) (.exit 0) (j4 er n ts (n:Int) n xb xn xd n pn (aP n (fun j=>qt ts j+ad.qv xb xn xd)) cs) (jn er n ts (n:Int) n xb xn xd n pn (aP n (fun j=>qt ts j+ad.qv xb xn xd)) cs):=by
 induction k with
 | zero=>
  intro i G
  have:i=n:=by omega
  subst this
  refine .last (N8 ?_) (by intro h;cases h)
  rw [M5,dF (show ¬ ((i:Nat):Int) < (i:Int) by omega)]
  rfl
 | succ k N=>
  intro i G
  exact .more (UP I M J i (by omega)) (N (i+1) (by omega))
theorem Uy (S:0 < n) (O:n≤1000) (M:∀ j,j < n→cb ts j=true) (J:bo xn xd=true):aw Tryz.prog (lb 14 lJ) (ph er n ts (n:Int) 0 xb xn xd pn cs) (oE er n ts (n:Int) 0 xb xn xd pn cs) (.exit 0) (j4 er n ts (n:Int) n xb xn xd n pn (aP n (fun j=>qt ts j+ad.qv xb xn xd)) cs) (jn er n ts (n:Int) n xb xn xd n pn (aP n (fun j=>qt ts j+ad.qv xb xn xd)) cs):=by
 have G:=aaJ ad er n ts (n:Int) ((0:Nat):Int) xb xn xd pn cs
 obtain ⟨I,N⟩:=cm (M 0 S)
 simp only [Int.toNat_natCast,Nat.zero_add,kT] at G
 rw [dT (show ((0:Nat):Int) < (n:Int) by omega),dT (show (0:Int)≤((0:Nat):Int) by omega),yj (show cR ts 0=true from I),I,cy N,cy J,aO (z:=((0:Nat):Int)+1) (by omega)] at G
 exact .more (acd G) (aw.cS (UO O M J (n - 1) 1 (by omega)) (aT.cons (bI.refl _) (aT.cons (bI.refl _) (aT.cons (bI.refl _) (aT.cons ⟨Ew rfl,rfl,rfl⟩ (aT.cons (bI.refl _) aT.nil))))))
end
def tU (er:Int) (n:Nat) (ts:List Value) (G i:Int) (xb:Bool) (xn xd:BA) (pn:Nat) (cs:List Value):Prop:=G=(n:Int)∧i=0∧0 < n∧n≤1000∧(∀ j,j < n→cb ts j=true)∧bo xn xd=true
def Dc (er:Int) (n:Nat) (ts:List Value) (G i:Int) (xb:Bool) (xn xd:BA) (pn:Nat) (cs:List Value) (ρ:Int×Nat×List Value):Prop:=ρ.2=(n,aP n (fun j=>qt ts j+ad.qv xb xn xd))
theorem XE (er:Int) (n:Nat) (ts:List Value) (j i:Int) (xb:Bool) (xn xd:BA) (pn:Nat) (cs:List Value) (h:tU er n ts j i xb xn xd pn cs):∃ ρ:Int×Nat×List Value,aw Tryz.prog (lb 14 gK) (ph er n ts j i xb xn xd pn cs) (oE er n ts j i xb xn xd pn cs) (.exit 0) (j4 er n ts j ρ.1 xb xn xd ρ.2.1 pn ρ.2.2 cs) (jn er n ts j ρ.1 xb xn xd ρ.2.1 pn ρ.2.2 cs)∧Dc er n ts j i xb xn xd pn cs ρ:=by
 obtain ⟨rfl,rfl,J,G,M,I⟩:=h
 exact ⟨((n:Int),n,aP n (fun N=>qt ts N+ad.qv xb xn xd)),Uy J G M I,rfl⟩
def FT (J:Int→Nat→List Value→Int→Int→Bool→ByteArray→ByteArray→Nat→List Value→Bool) (I:Int→Nat→List Value→Int→Int→Bool→ByteArray→ByteArray→Nat→List Value→Int×Nat×List Value) (T:List AV) (H:Hp):Option (Bool×Ex×List AV×Hp):=
 match al T 3,al T 4,al T 6,al T 5,al T 23,al T 24,al T 25,H with
 | .ptr 0 0, .ptr 1 0, .ptr 2 0, .val (.int .i64 er), .lst false 27 n j, .val (.int .i64 G), .val (.int .i64 i), [.row (.cells [.val (.bool xb), .val (.string xn), .val (.string xd)]) 27 .live, .row (.cells [.val (.slice none 0 0),.val (.slice none 0 0)]) 25 .live, .row (.cells [.val (.slice none 0 0),.sl false 35 3 0 pn]) 25 .live, .row (.vals cs) 35 .live]=>bif T.length==39 then some (au 3 n j&&J er n (af 3 n j) G i xb xn xd pn cs, .exit 0,j4 er n (af 3 n j) G ((I er n (af 3 n j) G i xb xn xd pn cs).1) xb xn xd ((I er n (af 3 n j) G i xb xn xd pn cs).2.1) pn ((I er n (af 3 n j) G i xb xn xd pn cs).2.2) cs,jn er n (af 3 n j) G ((I er n (af 3 n j) G i xb xn xd pn cs).1) xb xn xd ((I er n (af 3 n j) G i xb xn xd pn cs).2.1) pn ((I er n (af 3 n j) G i xb xn xd pn cs).2.2) cs) else none
 | _,_,_,_,_,_,_,_=>none
abbrev Ij:Type:=Int→Nat→List Value→Int→Int→Bool→ByteArray→ByteArray→Nat→List Value→Bool
abbrev HG:Type:=Int→Nat→List Value→Int→Int→Bool→ByteArray→ByteArray→Nat→List Value→Int×Nat×List Value
def r8 (j:Ij) (G:HG) (L:aE):aE:=bp 0 14 gK [3,4,6,5,23,24,25] (FT j G) L
def iJ (er:Int) (n:Nat) (ts:List Value) (j:Int) (i:Int) (xb:Bool) (xn:ByteArray) (xd:ByteArray) (pn:Nat) (cs:List Value):Int×Nat×List Value:=Classical.epsilon fun ρ=>aw Tryz.prog (lb 14 gK) (ph er n ts j i xb xn xd pn cs) (oE er n ts j i xb xn xd pn cs) (.exit 0) (j4 er n ts j (ρ.1) xb xn xd (ρ.2.1) pn (ρ.2.2) cs) (jn er n ts j (ρ.1) xb xn xd (ρ.2.1) pn (ρ.2.2) cs)∧Dc er n ts j i xb xn xd pn cs ρ
theorem Mb (er:Int) (n:Nat) (ts:List Value) (j:Int) (i:Int) (xb:Bool) (xn:ByteArray) (xd:ByteArray) (pn:Nat) (cs:List Value) (h:tU er n ts j i xb xn xd pn cs):aw Tryz.prog (lb 14 gK) (ph er n ts j i xb xn xd pn cs) (oE er n ts j i xb xn xd pn cs) (.exit 0) (j4 er n ts j ((iJ er n ts j i xb xn xd pn cs).1) xb xn xd ((iJ er n ts j i xb xn xd pn cs).2.1) pn ((iJ er n ts j i xb xn xd pn cs).2.2) cs) (jn er n ts j ((iJ er n ts j i xb xn xd pn cs).1) xb xn xd ((iJ er n ts j i xb xn xd pn cs).2.1) pn ((iJ er n ts j i xb xn xd pn cs).2.2) cs)∧Dc er n ts j i xb xn xd pn cs (iJ er n ts j i xb xn xd pn cs):=Classical.epsilon_spec (XE er n ts j i xb xn xd pn cs h)
def qf (er:Int) (n:Nat) (ts:List Value) (j:Int) (i:Int) (xb:Bool) (xn:ByteArray) (xd:ByteArray) (pn:Nat) (cs:List Value):Bool:= @decide (tU er n ts j i xb xn xd pn cs) (Classical.propDecidable _)
theorem TE (er:Int) (n:Nat) (ts:List Value) (j:Int) (i:Int) (xb:Bool) (xn:ByteArray) (xd:ByteArray) (pn:Nat) (cs:List Value) (h:tU er n ts j i xb xn xd pn cs):qf er n ts j i xb xn xd pn cs=true:= @decide_eq_true _ (Classical.propDecidable _) h
theorem ac7 (T:List AV) (H:Hp) (e:Ex) (I:List AV) (G:Hp) (h:FT qf iJ T H=some (true,e,I,G)):V.Ends Tryz.prog false 0 0 (.loop (lb 14 gK)) T H e I G:=by
 unfold FT at h
 split at h
 ·rename_i er n N a5 i xb xn xd pn cs Z ab a1 a0 O S U
  rw [Bool.cond_eq_ite] at h
  split at h
  ·rename_i J
   rw [beq_iff_eq] at J
   simp only [Option.some.injEq,Prod.mk.injEq,Bool.and_eq_true,decide_eq_true_eq] at h
   obtain ⟨⟨k1,a3⟩,rfl,rfl,rfl⟩:=h
   have a4:= @of_decide_eq_true _ (Classical.propDecidable _) a3
   refine Ends.pre (Mb er n (af 3 n N) a5 i xb xn xd pn cs a4).1.ends (fun α B w D a6 a2=>bm J (fun p M y j=> ?_) a2)
   simp only [List.mem_cons,List.not_mem_nil,or_false] at M
   rcases M with rfl | rfl | rfl | rfl | rfl | rfl | rfl
   ·rw [Z] at j;exact j
   ·rw [ab] at j;exact j
   ·rw [a1] at j;exact j
   ·rw [a0] at j;exact j
   ·rw [O] at j;exact kU (by kernel_rfl) k1 j
   ·rw [S] at j;exact j
   ·rw [U] at j;exact j
  ·cases h
 ·cases h
theorem IT {L:aE} (h:aB Tryz.prog L):aB Tryz.prog (r8 qf iJ L):=h.br Q7 ac7
def wc (j:Qg):Env:= ⟨an 56 (bM (vE j)) aF,ar,aq⟩
abbrev lK:List Bool:= [false,true,false,true,true]
def j5 (i:Int) (n:Nat) (ts:List Value) (m:Nat) (ps:List Value) (xb:Bool) (xn:ByteArray) (xd:ByteArray) (k:Nat) (pn:Nat) (pf:Nat→Nat→AV) (j:List Value):List AV:=av 30 [(2, .ptr 0 0),(3, .ptr 1 0),(4, .ptr 2 0),(5, .ptr 3 0),(6, .val (.int .i64 i))]
def jo (i:Int) (n:Nat) (ts:List Value) (m:Nat) (ps:List Value) (xb:Bool) (xn:ByteArray) (xd:ByteArray) (k:Nat) (pn:Nat) (pf:Nat→Nat→AV) (j:List Value):Hp:= [.row (.cells [.lst false 27 n (ag 3 ts), .lst false 35 m (ag 6 ps)]) 25 .live, .row (.cells [.val (.bool xb), .val (.string xn), .val (.string xd)]) 27 .live, .row (.cells [.val (.slice none 0 0),.val (.slice none 0 0)]) 25 .live, .row (.cells [.sl false 27 4 0 k,.lst false 35 pn pf]) 25 .live, .row (.vals j) 27 .live]
theorem SO:aJ Tryz.prog 54 (false :: lK)=some (lb 54 lK):=by kernel_rfl
theorem M8 (j:Qg) (i:Int) (n:Nat) (ts:List Value) (m:Nat) (ps:List Value) (xb:Bool) (xn:ByteArray) (xd:ByteArray) (k:Nat) (pn:Nat) (pf:Nat→Nat→AV) (G:List Value):letI J:=(ts.getD (i.toNat*(3:Nat)+(1:Nat)) undef);letI M:=(ts.getD (i.toNat*(3:Nat)+(2:Nat)) undef);letI I:=(j.qv (aM (ts.getD (i.toNat*(3:Nat)+(0:Nat)) undef)) (ah J) (ah M)+j.qv xb xn xd);
  (aN Tryz.prog (wc j) 54 [2,3,4,5,6] (lb 54 lK) (false :: lK) (j5 i n ts m ps xb xn xd k pn pf G) (jo i n ts m ps xb xn xd k pn pf G)=(bif decide (i < (↑n:Int)) then (bif decide ((0:Int)≤i)&&decide (i < (↑n:Int)) then (bif aS (ts.getD (i.toNat*(3:Nat)+(0:Nat)) undef) J M&&true&&(j.aL (ah J) (ah M)&&j.aL xn xd) then (bif decide (k*(3:Nat)≤(aC.vals G).len)&&cA Tryz.prog (k+(1:Nat)) (27:Nat)&&true then (bif aj IntKind.i64 (i+(1:Int)) then some (.normal,av 30 [(2,(.ptr 0 0)),(3,(.ptr 1 0)),(4,(.ptr 2 0)),(5,(.ptr 3 0)),(6,(.val (.int .i64 (i+(1:Int)))))], [(.row (.cells [(.lst false 27 n (ag (3:Nat) ts)),(.lst false 35 m (ag (6:Nat) ps))]) 25 .live),(.row (.cells [(.val (.bool xb)),(.val (.string xn)),(.val (.string xd))]) 27 .live),(.row (.cells [(.val (.slice .none 0 0)),(.val (.slice .none 0 0))]) 25 .live),(.row (.cells [(.sl false 27 4 0 (k+(1:Nat))),(.lst false 35 pn (pf))]) 25 .live),(.row (.vals ((List.take (k*(3:Nat)) G) ++ ([(.bool (j.qn I)),(.string (j.qs I)),(.string (j.qd I))]:List Value))) 27 .live)]) else none) else none) else none) else none) else some ((.exit 0),av 30 [(2,(.ptr 0 0)),(3,(.ptr 1 0)),(4,(.ptr 2 0)),(5,(.ptr 3 0)),(6,(.val (.int .i64 i)))], [(.row (.cells [(.lst false 27 n (ag (3:Nat) ts)),(.lst false 35 m (ag (6:Nat) ps))]) 25 .live),(.row (.cells [(.val (.bool xb)),(.val (.string xn)),(.val (.string xd))]) 27 .live),(.row (.cells [(.val (.slice .none 0 0)),(.val (.slice .none 0 0))]) 25 .live),(.row (.cells [(.sl false 27 4 0 k),(.lst false 35 pn (pf))]) 25 .live),(.row (.vals G) 27 .live)]))):=by kernel_rfl
theorem Oa {i:Int} {n:Nat} {ts:List Value} {m:Nat} {ps:List Value} {xb:Bool} {xn:ByteArray} {xd:ByteArray} {k:Nat} {pn:Nat} {pf:Nat→Nat→AV} {j:List Value} {e:Ex} {T:List AV} {H:Hp} (h:aN Tryz.prog (wc ad) 54 [2,3,4,5,6] (lb 54 lK) (false :: lK) (j5 i n ts m ps xb xn xd k pn pf j) (jo i n ts m ps xb xn xd k pn pf j)=some (e,T,H)):V.Ends Tryz.prog false 0 0 (lb 54 lK) (j5 i n ts m ps xb xn xd k pn pf j) (jo i n ts m ps xb xn xd k pn pf j) e T H:=
 bw ((aH _).add qm.bM) aK mixed SO h
abbrev gL:List Bool:= [false,true,false,true,true]
def pj (i:Int) (n:Nat) (ts:List Value) (m:Nat) (ps:List Value) (xb:Bool) (xn:ByteArray) (xd:ByteArray) (pn:Nat) (pf:Nat→Nat→AV):List AV:=av 30 [(2, .ptr 0 0),(3, .ptr 1 0),(4, .ptr 2 0),(5, .ptr 3 0),(6, .val (.int .i64 i))]
def oF (i:Int) (n:Nat) (ts:List Value) (m:Nat) (ps:List Value) (xb:Bool) (xn:ByteArray) (xd:ByteArray) (pn:Nat) (pf:Nat→Nat→AV):Hp:= [.row (.cells [.lst false 27 n (ag 3 ts), .lst false 35 m (ag 6 ps)]) 25 .live, .row (.cells [.val (.bool xb), .val (.string xn), .val (.string xd)]) 27 .live, .row (.cells [.val (.slice none 0 0),.val (.slice none 0 0)]) 25 .live, .row (.cells [.val (.slice none 0 0),.lst false 35 pn pf]) 25 .live]
theorem Rc:aJ Tryz.prog 54 gL=some (.loop (lb 54 gL)):=by kernel_rfl
theorem SN:aJ Tryz.prog 54 (false :: gL)=some (lb 54 gL):=by kernel_rfl
theorem aaK (j:Qg) (i:Int) (n:Nat) (ts:List Value) (m:Nat) (ps:List Value) (xb:Bool) (xn:ByteArray) (xd:ByteArray) (pn:Nat) (pf:Nat→Nat→AV):letI I:=(ts.getD (i.toNat*(3:Nat)+(1:Nat)) undef);letI J:=(ts.getD (i.toNat*(3:Nat)+(2:Nat)) undef);letI G:=(j.qv (aM (ts.getD (i.toNat*(3:Nat)+(0:Nat)) undef)) (ah I) (ah J)+j.qv xb xn xd);
  (aN Tryz.prog (wc j) 54 [2,3,4,5,6] (lb 54 gL) (false :: gL) (pj i n ts m ps xb xn xd pn pf) (oF i n ts m ps xb xn xd pn pf)=(bif decide (i < (↑n:Int)) then (bif decide ((0:Int)≤i)&&decide (i < (↑n:Int)) then (bif aS (ts.getD (i.toNat*(3:Nat)+(0:Nat)) undef) I J&&true&&(j.aL (ah I) (ah J)&&j.aL xn xd) then (bif aj IntKind.i64 (i+(1:Int)) then some (.normal,av 30 [(2,(.ptr 0 0)),(3,(.ptr 1 0)),(4,(.ptr 2 0)),(5,(.ptr 3 0)),(6,(.val (.int .i64 (i+(1:Int)))))], [(.row (.cells [(.lst false 27 n (ag (3:Nat) ts)),(.lst false 35 m (ag (6:Nat) ps))]) 25 .live),(.row (.cells [(.val (.bool xb)),(.val (.string xn)),(.val (.string xd))]) 27 .live),(.row (.cells [(.val (.slice .none 0 0)),(.val (.slice .none 0 0))]) 25 .live),(.row (.cells [(.sl false 27 4 0 1),(.lst false 35 pn (pf))]) 25 .live),(.row (.cells [(.val (.bool (j.qn G))),(.val (.string (j.qs G))),(.val (.string (j.qd G)))]) 27 .live)]) else none) else none) else none) else some ((.exit 0),av 30 [(2,(.ptr 0 0)),(3,(.ptr 1 0)),(4,(.ptr 2 0)),(5,(.ptr 3 0)),(6,(.val (.int .i64 i)))], [(.row (.cells [(.lst false 27 n (ag (3:Nat) ts)),(.lst false 35 m (ag (6:Nat) ps))]) 25 .live),(.row (.cells [(.val (.bool xb)),(.val (.string xn)),(.val (.string xd))]) 27 .live),(.row (.cells [(.val (.slice .none 0 0)),(.val (.slice .none 0 0))]) 25 .live),(.row (.cells [(.val (.slice .none 0 0)),(.lst false 35 pn (pf))]) 25 .live)]))):=by kernel_rfl
theorem acf {i:Int} {n:Nat} {ts:List Value} {m:Nat} {ps:List Value} {xb:Bool} {xn:ByteArray} {xd:ByteArray} {pn:Nat} {pf:Nat→Nat→AV} {e:Ex} {T:List AV} {H:Hp} (h:aN Tryz.prog (wc ad) 54 [2,3,4,5,6] (lb 54 gL) (false :: gL) (pj i n ts m ps xb xn xd pn pf) (oF i n ts m ps xb xn xd pn pf)=some (e,T,H)):V.Ends Tryz.prog false 0 0 (lb 54 gL) (pj i n ts m ps xb xn xd pn pf) (oF i n ts m ps xb xn xd pn pf) e T H:=
 bw ((aH _).add qm.bM) aK mixed SN h
section
variable {n : Nat} {ts : List Value} {m : Nat} {ps : List Value} {xb : Bool} {xn xd : BA} {pn : Nat} {pf : Nat → Nat → AV}
theorem Wg (S:n≤1000) (O:∀ j,j < n→cb ts j=true) (N:bo xn xd=true) (i:Nat) (M:i < n):V.Ends Tryz.prog false 0 0 (lb 54 lK) (j5 i n ts m ps xb xn xd i pn pf (aP i (fun j=>qt ts j+ad.qv xb xn xd))) (jo i n ts m ps xb xn xd i pn pf (aP i (fun j=>qt ts j+ad.qv xb xn xd))) .normal (j5 ((i+1:Nat):Int) n ts m ps xb xn xd (i+1) pn pf (aP (i+1) (fun j=>qt ts j+ad.qv xb xn xd))) (jo ((i+1:Nat):Int) n ts m ps xb xn xd (i+1) pn pf (aP (i+1) (fun j=>qt ts j+ad.qv xb xn xd))):=by
 obtain ⟨I,J⟩:=cm (O i M)
 have G:=M8 ad i n ts m ps xb xn xd i pn pf (aP i (fun j=>qt ts j+ad.qv xb xn xd))
 simp only [Int.toNat_natCast,Nat.zero_add,kT] at G
 rw [dT (show (i:Int) < (n:Int) by omega),dT (show (0:Int)≤(i:Int) by omega),I,cz J,cz N,yJ (show i+1≤2000 by omega),aO (z:=(i:Int)+1) (by omega),dT (show i*3≤(aC.vals (aP i (fun j=>qt ts j+ad.qv xb xn xd))).len from Nat.le_of_eq (eU i (fun j=>qt ts j+ad.qv xb xn xd)).symm),List.take_of_length_le (Nat.le_of_eq (eU i (fun j=>qt ts j+ad.qv xb xn xd)))] at G
 rw [qa i]
 exact Oa G
theorem Wf (I:n≤1000) (M:∀ j,j < n→cb ts j=true) (J:bo xn xd=true) (k:Nat):∀ i:Nat,n=i+k→aw Tryz.prog (lb 54 lK) (j5 i n ts m ps xb xn xd i pn pf (aP i (fun j=>qt ts j+ad.qv xb xn xd))) (jo i n ts m ps xb xn xd i pn pf (aP i (fun j=>qt ts j+ad.qv xb xn xd))) (.exit 0) (j5 n n ts m ps xb xn xd n pn pf (aP n (fun j=>qt ts j+ad.qv xb xn xd))) (jo n n ts m ps xb xn xd n pn pf (aP n (fun j=>qt ts j+ad.qv xb xn xd))):=by
 induction k with
 | zero=>
  intro i G
  have:i=n:=by omega
  subst this
  refine .last (Oa ?_) (by intro h;cases h)
  rw [M8,dF (show ¬ ((i:Nat):Int) < (i:Int) by omega)]
  rfl
 | succ k N=>
  intro i G
  exact .more (Wg I M J i (by omega)) (N (i+1) (by omega))
theorem Vi (S:0 < n) (O:n≤1000) (J:∀ j,j < n→cb ts j=true) (I:bo xn xd=true):aw Tryz.prog (lb 54 lK) (pj 0 n ts m ps xb xn xd pn pf) (oF 0 n ts m ps xb xn xd pn pf) (.exit 0) (j5 n n ts m ps xb xn xd n pn pf (aP n (fun j=>qt ts j+ad.qv xb xn xd))) (jo n n ts m ps xb xn xd n pn pf (aP n (fun j=>qt ts j+ad.qv xb xn xd))):=by
 have G:=aaK ad ((0:Nat):Int) n ts m ps xb xn xd pn pf
 obtain ⟨M,N⟩:=cm (J 0 S)
 simp only [Int.toNat_natCast,Nat.zero_add,kT] at G
 rw [dT (show ((0:Nat):Int) < (n:Int) by omega),dT (show (0:Int)≤((0:Nat):Int) by omega),M,cz N,cz I,aO (z:=((0:Nat):Int)+1) (by omega)] at G
 exact .more (acf G) (aw.cS (Wf O J I (n - 1) 1 (by omega)) (aT.cons (bI.refl _) (aT.cons (bI.refl _) (aT.cons (bI.refl _) (aT.cons (bI.refl _) (aT.cons ⟨Ew rfl,rfl,rfl⟩ aT.nil))))))
end
def tZ (i:Int) (n:Nat) (ts:List Value) (m:Nat) (ps:List Value) (xb:Bool) (xn xd:BA) (pn:Nat) (pf:Nat→Nat→AV):Prop:=i=0∧0 < n∧n≤1000∧(∀ j,j < n→cb ts j=true)∧bo xn xd=true
def Df (i:Int) (n:Nat) (ts:List Value) (m:Nat) (ps:List Value) (xb:Bool) (xn xd:BA) (pn:Nat) (pf:Nat→Nat→AV) (ρ:Int×Nat×List Value):Prop:=ρ.2=(n,aP n (fun j=>qt ts j+ad.qv xb xn xd))
theorem XJ (i:Int) (n:Nat) (ts:List Value) (m:Nat) (ps:List Value) (xb:Bool) (xn xd:BA) (pn:Nat) (pf:Nat→Nat→AV) (h:tZ i n ts m ps xb xn xd pn pf):∃ ρ:Int×Nat×List Value,aw Tryz.prog (lb 54 gL) (pj i n ts m ps xb xn xd pn pf) (oF i n ts m ps xb xn xd pn pf) (.exit 0) (j5 ρ.1 n ts m ps xb xn xd ρ.2.1 pn pf ρ.2.2) (jo ρ.1 n ts m ps xb xn xd ρ.2.1 pn pf ρ.2.2)∧Df i n ts m ps xb xn xd pn pf ρ:=by
 obtain ⟨rfl,I,j,J,G⟩:=h
 exact ⟨((n:Int),n,aP n (fun M=>qt ts M+ad.qv xb xn xd)),Vi I j J G,rfl⟩
def FY (J:Int→Nat→List Value→Nat→List Value→Bool→ByteArray→ByteArray→Nat→(Nat→Nat→AV)→Bool) (I:Int→Nat→List Value→Nat→List Value→Bool→ByteArray→ByteArray→Nat→(Nat→Nat→AV)→Int×Nat×List Value) (T:List AV) (H:Hp):Option (Bool×Ex×List AV×Hp):=
 match al T 2,al T 3,al T 4,al T 5,al T 6,H with
 | .ptr 0 0, .ptr 1 0, .ptr 2 0, .ptr 3 0, .val (.int .i64 i), [.row (.cells [.lst false 27 n G, .lst false 35 m j]) 25 .live, .row (.cells [.val (.bool xb), .val (.string xn), .val (.string xd)]) 27 .live, .row (.cells [.val (.slice none 0 0),.val (.slice none 0 0)]) 25 .live, .row (.cells [.val (.slice none 0 0),.lst false 35 pn pf]) 25 .live]=>bif T.length==30 then some (au 3 n G&&au 6 m j&&J i n (af 3 n G) m (af 6 m j) xb xn xd pn pf, .exit 0,j5 ((I i n (af 3 n G) m (af 6 m j) xb xn xd pn pf).1) n (af 3 n G) m (af 6 m j) xb xn xd ((I i n (af 3 n G) m (af 6 m j) xb xn xd pn pf).2.1) pn pf ((I i n (af 3 n G) m (af 6 m j) xb xn xd pn pf).2.2),jo ((I i n (af 3 n G) m (af 6 m j) xb xn xd pn pf).1) n (af 3 n G) m (af 6 m j) xb xn xd ((I i n (af 3 n G) m (af 6 m j) xb xn xd pn pf).2.1) pn pf ((I i n (af 3 n G) m (af 6 m j) xb xn xd pn pf).2.2)) else none
 | _,_,_,_,_,_=>none
abbrev Io:Type:=Int→Nat→List Value→Nat→List Value→Bool→ByteArray→ByteArray→Nat→(Nat→Nat→AV)→Bool
abbrev HK:Type:=Int→Nat→List Value→Nat→List Value→Bool→ByteArray→ByteArray→Nat→(Nat→Nat→AV)→Int×Nat×List Value
def AR (j:Io) (G:HK) (L:aE):aE:=bp 0 54 gL [2,3,4,5,6] (FY j G) L
def kQ (i:Int) (n:Nat) (ts:List Value) (m:Nat) (ps:List Value) (xb:Bool) (xn:ByteArray) (xd:ByteArray) (pn:Nat) (pf:Nat→Nat→AV):Int×Nat×List Value:=Classical.epsilon fun ρ=>aw Tryz.prog (lb 54 gL) (pj i n ts m ps xb xn xd pn pf) (oF i n ts m ps xb xn xd pn pf) (.exit 0) (j5 (ρ.1) n ts m ps xb xn xd (ρ.2.1) pn pf (ρ.2.2)) (jo (ρ.1) n ts m ps xb xn xd (ρ.2.1) pn pf (ρ.2.2))∧Df i n ts m ps xb xn xd pn pf ρ
theorem Mg (i:Int) (n:Nat) (ts:List Value) (m:Nat) (ps:List Value) (xb:Bool) (xn:ByteArray) (xd:ByteArray) (pn:Nat) (pf:Nat→Nat→AV) (h:tZ i n ts m ps xb xn xd pn pf):aw Tryz.prog (lb 54 gL) (pj i n ts m ps xb xn xd pn pf) (oF i n ts m ps xb xn xd pn pf) (.exit 0) (j5 ((kQ i n ts m ps xb xn xd pn pf).1) n ts m ps xb xn xd ((kQ i n ts m ps xb xn xd pn pf).2.1) pn pf ((kQ i n ts m ps xb xn xd pn pf).2.2)) (jo ((kQ i n ts m ps xb xn xd pn pf).1) n ts m ps xb xn xd ((kQ i n ts m ps xb xn xd pn pf).2.1) pn pf ((kQ i n ts m ps xb xn xd pn pf).2.2))∧Df i n ts m ps xb xn xd pn pf (kQ i n ts m ps xb xn xd pn pf):=Classical.epsilon_spec (XJ i n ts m ps xb xn xd pn pf h)
def wV (i:Int) (n:Nat) (ts:List Value) (m:Nat) (ps:List Value) (xb:Bool) (xn:ByteArray) (xd:ByteArray) (pn:Nat) (pf:Nat→Nat→AV):Bool:= @decide (tZ i n ts m ps xb xn xd pn pf) (Classical.propDecidable _)
theorem TK (i:Int) (n:Nat) (ts:List Value) (m:Nat) (ps:List Value) (xb:Bool) (xn:ByteArray) (xd:ByteArray) (pn:Nat) (pf:Nat→Nat→AV) (h:tZ i n ts m ps xb xn xd pn pf):wV i n ts m ps xb xn xd pn pf=true:= @decide_eq_true _ (Classical.propDecidable _) h
theorem ade (T:List AV) (H:Hp) (e:Ex) (I:List AV) (G:Hp) (h:FY wV kQ T H=some (true,e,I,G)):V.Ends Tryz.prog false 0 0 (.loop (lb 54 gL)) T H e I G:=by
 unfold FY at h
 split at h
 ·rename_i i n O m N xb xn xd pn pf S U Z ab a0
  rw [Bool.cond_eq_ite] at h
  split at h
  ·rename_i J
   rw [beq_iff_eq] at J
   simp only [Option.some.injEq,Prod.mk.injEq,Bool.and_eq_true,decide_eq_true_eq] at h
   obtain ⟨⟨⟨k1,a3⟩,a4⟩,rfl,rfl,rfl⟩:=h
   have a5:= @of_decide_eq_true _ (Classical.propDecidable _) a4
   refine Ends.pre (Ends.cS (Mg i n (af 3 n O) m (af 6 m N) xb xn xd pn pf a5).1.ends (aT.cons ⟨⟨rfl,fun _ _ _ _ _ a1=>ei (by kernel_rfl) (by kernel_rfl) k1 a3 a1⟩,rfl,rfl⟩ (aT.cons (bI.refl _) (aT.cons (bI.refl _) (aT.cons (bI.refl _) aT.nil))))) (fun α B w D a6 a2=>bm J (fun p M y j=> ?_) a2)
   simp only [List.mem_cons,List.not_mem_nil,or_false] at M
   rcases M with rfl | rfl | rfl | rfl | rfl
   ·rw [S] at j;exact j
   ·rw [U] at j;exact j
   ·rw [Z] at j;exact j
   ·rw [ab] at j;exact j
   ·rw [a0] at j;exact j
  ·cases h
 ·cases h
theorem P5 {L:aE} (h:aB Tryz.prog L):aB Tryz.prog (AR wV kQ L):=h.br Rc ade
end
end Go.Proofs.YtamcpiicmfielaaGreat.L
namespace Go.Proofs.YtamcpiicmfielaaGreat.L
open Go Go.V Go.RowKit Go.Proofs.YtamcpiicmfielaaGreat.Sp
open Go.Proofs (Tryz.prog)
noncomputable section
theorem xL {n d:BA} (h:a8.gr n d=false):a8.ok n d=true:=by
 have h:(decide (12 < n.size) ||decide (12 < d.size))=false:=h
 rw [Bool.or_eq_false_iff,decide_eq_false_iff_not,decide_eq_false_iff_not] at h
 show (decide _&&decide _)=true
 rw [decide_eq_true (show n.size≤12 by omega),decide_eq_true (show d.size≤12 by omega)];rfl
theorem LR {n d:BA} (h:a8.ok n d=true):bo n d=true:=by
 obtain ⟨j,G⟩:=qM h
 unfold bo
 rw [decide_eq_true (show n.size≤1000 by omega),decide_eq_true (show d.size≤1000 by omega)];rfl
structure Small (n:Nat) (ts:List Value) (m:Nat) (ps:List Value):Prop where
 ko:cW n ts m ps=true
 sz:∀ j,j < n→bg (qt ts j)≤12
 ai:n≤10∨1000 < n
 nx:n≤1005
theorem abN {n:Nat} {ts:List Value} {m:Nat} {ps:List Value} (O:fI n ts=true) (S:jM m ps=true) (h:¬ nB n ts m ps=true):Small n ts m ps:=by
 obtain ⟨a2,Z⟩:=C3 O
 obtain ⟨a1,U⟩:=C7 (show kY.lH m ps=true from S)
 unfold nB at h
 rw [Bool.not_eq_true,Bool.or_eq_false_iff,Bool.or_eq_false_iff,Bool.or_eq_false_iff,Bool.and_eq_false_iff,decide_eq_false_iff_not,decide_eq_false_iff_not,decide_eq_false_iff_not] at h
 obtain ⟨⟨N,ab,a0⟩,J⟩:=h
 unfold oD at J
 rw [Bool.or_eq_false_iff] at J
 have M:∀ G,G < n→a8.ok (ah (ts.getD (G*3+1) undef)) (ah (ts.getD (G*3+2) undef))=true:=fun G j=>xL (none_lt (Bool.eq_false_iff.1 N) j)
 refine ⟨?_,fun G j=>fG (M G j),by omega,by omega⟩
 unfold cW
 rw [Bool.and_eq_true,List.all_eq_true,List.all_eq_true]
 refine ⟨fun G j=> ?_,fun G j=> ?_⟩
 ·rw [List.mem_range] at j
  unfold cb
  rw [Z G j,LR (M G j)];rfl
 ·rw [List.mem_range] at j
  have I:=none_lt (Bool.eq_false_iff.1 J.1) j
  unfold kI at I
  rw [Bool.or_eq_false_iff] at I
  unfold cP
  rw [U G j,xL I.1,xL I.2];rfl
section
variable {n : Nat} {ts : List Value}
end
end
end Go.Proofs.YtamcpiicmfielaaGreat.L
namespace Go.Proofs.YtamcpiicmfielaaGreat.L
open Go Go.V Go.RowKit Go.Proofs.YtamcpiicmfielaaGreat.Sp
open Go.Proofs (Tryz.prog)
noncomputable section
def zy (K:Hg) (j:Qg):TF:=p3 fun b n d c m e N M G O J I=>some (K.ok n d&&K.ok m e&&K.ok M G&&K.ok J I,j.pair (j.qv b n d - j.qv N M G) (j.qv c m e - j.qv O J I))
def FO (V:Vg) (j:Qg):TF:=p3 fun b n d c m e N M G O J I=>some (V.eO n d&&V.eO m e&&V.eO M G&&V.eO J I,j.rat (j.qv b n d*j.qv N M G+j.qv c m e*j.qv O J I))
theorem ael (j:Qg) (b c N O:Bool) (n d m e M G J I:BA):aD Tryz.prog ⟨oc j,ar,aq⟩ 10 10 80 [w6 b n d c m e,w6 N M G O J I]=
  (bif j.ok n d&&j.ok M G then (bif j.ok m e&&j.ok J I then some (.agg [(.val (.bool (j.qn (j.qv b n d - j.qv N M G)))),(.val (.string (j.qs (j.qv b n d - j.qv N M G)))),(.val (.string (j.qd (j.qv b n d - j.qv N M G)))),(.val (.bool (j.qn (j.qv c m e - j.qv O J I)))),(.val (.string (j.qs (j.qv c m e - j.qv O J I)))),(.val (.string (j.qd (j.qv c m e - j.qv O J I))))]) else none) else none):=by kernel_rfl
theorem aej (j:Qg) (b c N O:Bool) (n d m e M G J I:BA):aD Tryz.prog ⟨oc j,ar,aq⟩ 10 10 43 [w6 b n d c m e,w6 N M G O J I]=
  (bif j.ok n d&&j.ok M G then (bif j.ok m e&&j.ok J I then (bif j.ok (j.qs (j.qv b n d*j.qv N M G)) (j.qd (j.qv b n d*j.qv N M G))&&j.ok (j.qs (j.qv c m e*j.qv O J I)) (j.qd (j.qv c m e*j.qv O J I)) then some (.agg [(.val (.bool (j.qn (j.qv (j.qn (j.qv b n d*j.qv N M G)) (j.qs (j.qv b n d*j.qv N M G)) (j.qd (j.qv b n d*j.qv N M G))+j.qv (j.qn (j.qv c m e*j.qv O J I)) (j.qs (j.qv c m e*j.qv O J I)) (j.qd (j.qv c m e*j.qv O J I)))))),(.val (.string (j.qs (j.qv (j.qn (j.qv b n d*j.qv N M G)) (j.qs (j.qv b n d*j.qv N M G)) (j.qd (j.qv b n d*j.qv N M G))+j.qv (j.qn (j.qv c m e*j.qv O J I)) (j.qs (j.qv c m e*j.qv O J I)) (j.qd (j.qv c m e*j.qv O J I)))))),(.val (.string (j.qd (j.qv (j.qn (j.qv b n d*j.qv N M G)) (j.qs (j.qv b n d*j.qv N M G)) (j.qd (j.qv b n d*j.qv N M G))+j.qv (j.qn (j.qv c m e*j.qv O J I)) (j.qs (j.qv c m e*j.qv O J I)) (j.qd (j.qv c m e*j.qv O J I))))))]) else none) else none) else none):=by kernel_rfl
theorem B7:Entry Tryz.prog 80 (zy a8 ad):=by
 refine aX (E:= ⟨oc ad,ar,aq⟩) (u:=10) (d:=10) zL aK mixed (by kernel_rfl) (fun args r h=> ?_)
 unfold zy p3 at h
 split at h
 ·rename_i b n d c m e M Z O N U S
  simp only [Option.some.injEq,Prod.mk.injEq,Bool.and_eq_true] at h
  obtain ⟨⟨⟨⟨j,G⟩,I⟩,J⟩,rfl⟩:=h
  rw [ael,lD j,lD G,lD I,lD J];rfl
 ·cases h
theorem We:Entry Tryz.prog 43 (FO cC ad):=by
 refine aX (E:= ⟨oc ad,ar,aq⟩) (u:=10) (d:=10) zL aK mixed (by kernel_rfl) (fun args r h=> ?_)
 unfold FO p3 at h
 split at h
 ·rename_i b n d c m e j ab I G Z J
  simp only [Option.some.injEq,Prod.mk.injEq,Bool.and_eq_true] at h
  obtain ⟨⟨⟨⟨M,N⟩,O⟩,S⟩,rfl⟩:=h
  have a4:=qO (b:=b) M
  have a5:=qO (b:=c) N
  have a6:=qO (b:=j) O
  have a7:=qO (b:=G) S
  have U:=aej ad b c j G n d m e ab I Z J
  have a0:=tN M
  have a1:=tN N
  have a2:=tN O
  have a3:=tN S
  generalize ad.qv b n d=x at*
  generalize ad.qv c m e=y at*
  generalize ad.qv j ab I=u at*
  generalize ad.qv G Z J=v at*
  have bx:=gu x u
  have bD:=gu y v
  simp only [gT,a0,a1,a2,a3,df (q:=x*u) (by omega),df (q:=y*v) (by omega),Bool.and_self,cond_true] at U
  exact U
 ·cases h
theorem LL {ps:List Value} {j:Nat} (h:cP ps j=true):bg (px ps j)≤12∧bg (py ps j)≤12:=by
 obtain ⟨_,G,I⟩:=cY h
 exact ⟨fG G,fG I⟩
def iM:Rec:= ⟨av 37 [(4, .ptr 2 0)],#[15,16],10, [false,true,false,true,true,true], .ready,none⟩
def HB (K:Hg) (V:Vg) (j:Qg):Env:= ⟨an 31 (bM (pJ j)) (an 80 (gD (zy K j)) (an 43 (FO V j) (an 30 (rF j) (an 42 (vD j) (an 23 (rE j) aF))))),fun _=>false,aq⟩
def DX (k:Nat):AV→Nat→Bool
 | .any,i=> !(i==k)
 | .ptr a b,i=>i==k&&(a==2&&b==0)
 | _,_=>false
def DV (r:Rec):Bool:=(r.T.length==37&&(List.range 37).all fun i=>DX 4 (al r.T i) i)&&(r.params== #[15,16]&&(r.g==10&&(r.path== [false,true,false,true,true,true]&&((match r.st with | .ready=>true | _=>false)&&r.bN.isNone))))
theorem aak {k i:Nat} {v:AV} (h:DX k v i=true):v=if i=k then .ptr 2 0 else .any:=by
 unfold DX at h
 split at h
 ·rw [Bool.not_eq_true',beq_eq_false_iff_ne] at h
  rw [if_neg h]
 ·rw [Bool.and_eq_true,Bool.and_eq_true,beq_iff_eq,beq_iff_eq,beq_iff_eq] at h
  obtain ⟨rfl,rfl,rfl⟩:=h
  rw [if_pos rfl]
 ·cases h
theorem aah {r:Rec} (h:DV r=true):r=iM:=by
 obtain ⟨T,ps,g,p,st,J⟩:=r
 unfold DV at h
 simp only [Bool.and_eq_true,beq_iff_eq] at h
 obtain ⟨⟨Z,O⟩,rfl,rfl,rfl,S,U⟩:=h
 have M:st= .ready:=by cases st <;> first | rfl | cases S
 have N:J=none:=by cases J <;> first | rfl | cases U
 subst M N
 unfold iM
 congr 1
 apply List.ext_getElem?
 intro i
 by_cases I:i < 37
 ·have G:=aak (List.all_eq_true.1 O i (List.mem_range.2 I))
  rw [qE,List.getElem?_eq_getElem (show i < T.length by omega),Option.getD_some] at G
  rw [List.getElem?_eq_getElem (show i < T.length by omega),G]
  unfold av
  rw [List.getElem?_map,List.getElem?_range I,Option.map_some]
  show _=some (lY [(4,AV.ptr 2 0)] i)
  unfold lY lY
  by_cases j:i=4
  ·subst j;rfl
  ·rw [if_neg j,show ((4:Nat)==i)=false from beq_eq_false_iff_ne.2 (Ne.symm j)];rfl
 ·rw [List.getElem?_eq_none (by omega),List.getElem?_eq_none (by unfold av;simp;omega)]
abbrev fp:List Bool:= [false,true]
def gX (i:Int) (n0:Nat) (f0:Nat→Nat→AV) (m0:Nat) (g0:Nat→Nat→AV) (zb:Bool) (zn:ByteArray) (zd:ByteArray) (j:Bool) (mn:ByteArray) (md:ByteArray) (n:Nat) (ts:List Value) (m:Nat) (ps:List Value):List AV:=av 40 [(0, .yld 4),(1, .ptr 3 0),(3, .val (.int .i64 i))]
def gH (i:Int) (n0:Nat) (f0:Nat→Nat→AV) (m0:Nat) (g0:Nat→Nat→AV) (zb:Bool) (zn:ByteArray) (zd:ByteArray) (j:Bool) (mn:ByteArray) (md:ByteArray) (n:Nat) (ts:List Value) (m:Nat) (ps:List Value):Hp:= [.row (.cells [.lst false 27 n0 f0,.lst false 35 m0 g0]) 25 .live, .row (.cells [.val (.bool zb), .val (.string zn), .val (.string zd)]) 27 .live, .row (.cells [.val (.bool j), .val (.string mn), .val (.string md)]) 27 .live, .row (.cells [.lst false 27 n (ag 3 ts), .lst false 35 m (ag 6 ps)]) 25 .live, .loop iM]
theorem RP:aJ Tryz.prog 88 fp=some (.loop (lb 88 fp)):=by kernel_rfl
theorem Tr:aJ Tryz.prog 88 (false :: fp)=some (lb 88 fp):=by kernel_rfl
theorem Ns (K:Hg) (V:Vg) (j:Qg) (i:Int) (n0:Nat) (f0:Nat→Nat→AV) (m0:Nat) (g0:Nat→Nat→AV) (zb:Bool) (zn:ByteArray) (zd:ByteArray) (N:Bool) (mn:ByteArray) (md:ByteArray) (n:Nat) (ts:List Value) (m:Nat) (ps:List Value):letI a7:=(ps.getD (i.toNat*(6:Nat)+(1:Nat)) undef);letI bx:=(ps.getD (i.toNat*(6:Nat)+(2:Nat)) undef);letI a1:=(ps.getD ((i - (1:Int)).toNat*(6:Nat)+(1:Nat)) undef);letI a2:=(ps.getD ((i - (1:Int)).toNat*(6:Nat)+(2:Nat)) undef);letI I:=(j.qv (aM (ps.getD (i.toNat*(6:Nat)+(0:Nat)) undef)) (ah a7) (ah bx) - j.qv (aM (ps.getD ((i - (1:Int)).toNat*(6:Nat)+(0:Nat)) undef)) (ah a1) (ah a2));letI bD:=(ps.getD (i.toNat*(6:Nat)+(4:Nat)) undef);letI b0:=(ps.getD (i.toNat*(6:Nat)+(5:Nat)) undef);letI a3:=(ps.getD ((i - (1:Int)).toNat*(6:Nat)+(4:Nat)) undef);letI a4:=(ps.getD ((i - (1:Int)).toNat*(6:Nat)+(5:Nat)) undef);letI J:=(j.qv (aM (ps.getD (i.toNat*(6:Nat)+(3:Nat)) undef)) (ah bD) (ah b0) - j.qv (aM (ps.getD ((i - (1:Int)).toNat*(6:Nat)+(3:Nat)) undef)) (ah a3) (ah a4));letI O:=(j.qv (j.qn I) (j.qs I) (j.qd I)*j.qv (j.qn I) (j.qs I) (j.qd I)+j.qv (j.qn J) (j.qs J) (j.qd J)*j.qv (j.qn J) (j.qs J) (j.qd J));letI a5:=(ts.getD (i.toNat*(3:Nat)+(1:Nat)) undef);letI a6:=(ts.getD (i.toNat*(3:Nat)+(2:Nat)) undef);letI ab:=(ts.getD ((i - (1:Int)).toNat*(3:Nat)+(1:Nat)) undef);letI a0:=(ts.getD ((i - (1:Int)).toNat*(3:Nat)+(2:Nat)) undef);letI G:=(j.qv (aM (ts.getD (i.toNat*(3:Nat)+(0:Nat)) undef)) (ah a5) (ah a6) - j.qv (aM (ts.getD ((i - (1:Int)).toNat*(3:Nat)+(0:Nat)) undef)) (ah ab) (ah a0));letI U:=(j.qv (j.qn G) (j.qs G) (j.qd G)*j.qv (j.qn G) (j.qs G) (j.qd G));letI M:=(j.qv (j.qn O) (j.qs O) (j.qd O) / j.qv (j.qn U) (j.qs U) (j.qd U));letI b1:=(Rec.mk iM.T iM.params (10:Nat) iM.path LoopState.busy iM.bN);letI S:=(Rec.mk b1.T b1.params (10:Nat) b1.path LoopState.ready none);letI Z:=(Rec.mk (cX (u9 [(0:Nat),(1:Nat),(3:Nat),(1004:Nat)]) S.T) S.params (10:Nat) S.path S.st S.bN);letI b2:=(Rec.mk (cX (u9 [(0:Nat),(1:Nat),(3:Nat),(1004:Nat)]) iM.T) iM.params (10:Nat) iM.path iM.st iM.bN);
  (nP Tryz.prog (HB K V j) 5 88 [0,1,3,1004] (lb 88 fp) (false :: fp) (gX i n0 f0 m0 g0 zb zn zd N mn md n ts m ps) (gH i n0 f0 m0 g0 zb zn zd N mn md n ts m ps)=(bif decide (i < (↑n:Int)) then (bif decide ((0:Int)≤i)&&decide (i < (↑n:Int)) then (bif aj IntKind.i64 (i - (1:Int)) then (bif decide ((0:Int)≤i - (1:Int))&&decide (i - (1:Int) < (↑n:Int)) then (bif aS (ts.getD (i.toNat*(3:Nat)+(0:Nat)) undef) a5 a6&&aS (ts.getD ((i - (1:Int)).toNat*(3:Nat)+(0:Nat)) undef) ab a0&&(j.ok (ah a5) (ah a6)&&j.ok (ah ab) (ah a0)) then (bif decide ((0:Int)≤i)&&decide (i < (↑m:Int)) then (bif aj IntKind.i64 (i - (1:Int)) then (bif decide ((0:Int)≤i - (1:Int))&&decide (i - (1:Int) < (↑m:Int)) then (bif aS (ps.getD (i.toNat*(6:Nat)+(0:Nat)) undef) a7 bx&&aS (ps.getD (i.toNat*(6:Nat)+(3:Nat)) undef) bD b0&&(aS (ps.getD ((i - (1:Int)).toNat*(6:Nat)+(0:Nat)) undef) a1 a2&&aS (ps.getD ((i - (1:Int)).toNat*(6:Nat)+(3:Nat)) undef) a3 a4)&&(K.ok (ah a7) (ah bx)&&K.ok (ah bD) (ah b0)&&K.ok (ah a1) (ah a2)&&K.ok (ah a3) (ah a4)) then (bif V.eO (j.qs I) (j.qd I)&&V.eO (j.qs J) (j.qd J)&&V.eO (j.qs I) (j.qd I)&&V.eO (j.qs J) (j.qd J) then (bif j.ok (j.qs G) (j.qd G)&&j.ok (j.qs G) (j.qd G) then (bif j.ok (j.qs O) (j.qd O)&&j.ok (j.qs U) (j.qd U) then (bif j.ok (j.qs M) (j.qd M)&&j.ok mn md then (bif decide ((0:Int) < j.cq (j.qv (j.qn M) (j.qs M) (j.qd M)) (j.qv N mn md)) then (bif aj IntKind.i64 (i+(1:Int)) then some (.normal,av 40 [(0,(.yld 4)),(1,(.ptr 3 0)),(3,(.val (.int .i64 (i+(1:Int)))))], [(.row (.cells [(.lst false 27 n0 (f0)),(.lst false 35 m0 (g0))]) 25 .live),(.row (.cells [(.val (.bool zb)),(.val (.string zn)),(.val (.string zd))]) 27 .live),(.row (.cells [(.val (.bool (j.qn M))),(.val (.string (j.qs M))),(.val (.string (j.qd M)))]) 27 .live),(.row (.cells [(.lst false 27 n (ag (3:Nat) ts)),(.lst false 35 m (ag (6:Nat) ps))]) 25 .live),(.loop (.mk [.any, .any, .any, .any,(.ptr 2 0), .any, .any, .any, .any, .any, .any, .any, .any, .any, .any, .any, .any, .any, .any, .any, .any, .any, .any, .any, .any, .any, .any, .any, .any, .any, .any, .any, .any, .any, .any, .any, .any] (Z.params) 10 (Z.path) .ready .none))]) else none) else (bif aj IntKind.i64 (i+(1:Int)) then some (.normal,av 40 [(0,(.yld 4)),(1,(.ptr 3 0)),(3,(.val (.int .i64 (i+(1:Int)))))], [(.row (.cells [(.lst false 27 n0 (f0)),(.lst false 35 m0 (g0))]) 25 .live),(.row (.cells [(.val (.bool zb)),(.val (.string zn)),(.val (.string zd))]) 27 .live),(.row (.cells [(.val (.bool N)),(.val (.string mn)),(.val (.string md))]) 27 .live),(.row (.cells [(.lst false 27 n (ag (3:Nat) ts)),(.lst false 35 m (ag (6:Nat) ps))]) 25 .live),(.loop (.mk [.any, .any, .any, .any,(.ptr 2 0), .any, .any, .any, .any, .any, .any, .any, .any, .any, .any, .any, .any, .any, .any, .any, .any, .any, .any, .any, .any, .any, .any, .any, .any, .any, .any, .any, .any, .any, .any, .any, .any] (Z.params) 10 (Z.path) .ready .none))]) else none)) else none) else none) else none) else none) else none) else none) else none) else none) else none) else none) else none) else none) else some ((.exit 0),av 40 [(0,(.yld 4)),(1,(.ptr 3 0)),(3,(.val (.int .i64 i)))], [(.row (.cells [(.lst false 27 n0 (f0)),(.lst false 35 m0 (g0))]) 25 .live),(.row (.cells [(.val (.bool zb)),(.val (.string zn)),(.val (.string zd))]) 27 .live),(.row (.cells [(.val (.bool N)),(.val (.string mn)),(.val (.string md))]) 27 .live),(.row (.cells [(.lst false 27 n (ag (3:Nat) ts)),(.lst false 35 m (ag (6:Nat) ps))]) 25 .live),(.loop (.mk [.any, .any, .any, .any,(.ptr 2 0), .any, .any, .any, .any, .any, .any, .any, .any, .any, .any, .any, .any, .any, .any, .any, .any, .any, .any, .any, .any, .any, .any, .any, .any, .any, .any, .any, .any, .any, .any, .any, .any] (b2.params) 10 (b2.path) .ready .none))]))):=by kernel_rfl
theorem Fb {i:Int} {n0:Nat} {f0:Nat→Nat→AV} {m0:Nat} {g0:Nat→Nat→AV} {zb:Bool} {zn:ByteArray} {zd:ByteArray} {j:Bool} {mn:ByteArray} {md:ByteArray} {n:Nat} {ts:List Value} {m:Nat} {ps:List Value} {e:Ex} {T:List AV} {H:Hp} (h:nP Tryz.prog (HB a8 cC ad) 5 88 [0,1,3,1004] (lb 88 fp) (false :: fp) (gX i n0 f0 m0 g0 zb zn zd j mn md n ts m ps) (gH i n0 f0 m0 g0 zb zn zd j mn md n ts m ps)=some (e,T,H)):V.Ends Tryz.prog false 5 0 (lb 88 fp) (gX i n0 f0 m0 g0 zb zn zd j mn md n ts m ps) (gH i n0 f0 m0 g0 zb zn zd j mn md n ts m ps) e T H:=
 Eh (((((((aH _).add xv).add BW).add tb).add We).add B7.gD).add ql.bM) aK mixed Tr h
def ft (ps:List Value) (j:Nat):Rat:=(px ps (j+1) - px ps j)*(px ps (j+1) - px ps j)+(py ps (j+1) - py ps j)*(py ps (j+1) - py ps j)
def fq (ts:List Value) (j:Nat):Rat:=(qt ts (j+1) - qt ts j)*(qt ts (j+1) - qt ts j)
def aV (ts ps:List Value):Nat→Rat
 | 0=>0
 | k+1=>if aV ts ps k < ft ps k / fq ts k then ft ps k / fq ts k else aV ts ps k
theorem vk {n:Nat} {ts ps:List Value} (h:c9 n ts n ps) {j:Nat} (G:j+1 < n):bg (px ps (j+1) - px ps j)≤25∧bg (py ps (j+1) - py ps j)≤25∧bg (ft ps j)≤101∧bg (qt ts (j+1) - qt ts j)≤2001∧bg (fq ts j)≤4002∧bg (ft ps j / fq ts j)≤4104:=by
 obtain ⟨I,J⟩:=LL (h.dh j (by omega))
 obtain ⟨M,N⟩:=LL (h.dh (j+1) G)
 have O:=lG (h.ts.ok j (by omega))
 have S:=lG (h.ts.ok (j+1) G)
 have U:=gv (px ps (j+1)) (px ps j)
 have Z:=gv (py ps (j+1)) (py ps j)
 have ab:=gu (px ps (j+1) - px ps j) (px ps (j+1) - px ps j)
 have a0:=gu (py ps (j+1) - py ps j) (py ps (j+1) - py ps j)
 have a1:=yT ((px ps (j+1) - px ps j)*(px ps (j+1) - px ps j)) ((py ps (j+1) - py ps j)*(py ps (j+1) - py ps j))
 have a2:=gv (qt ts (j+1)) (qt ts j)
 have a3:=gu (qt ts (j+1) - qt ts j) (qt ts (j+1) - qt ts j)
 have a4:=Fo (ft ps j) (fq ts j)
 unfold ft fq at*
 omega
theorem CY {n:Nat} {ts ps:List Value} (h:c9 n ts n ps):∀ j,j < n→bg (aV ts ps j)≤4104
 | 0,_=>Nat.le_trans OZ (by decide)
 | j+1,G=>by
  unfold aV
  split
  ·exact (vk h G).2.2.2.2.2
  ·exact CY h j (by omega)
theorem xp {a b:Rat} :0 < ad.cq a b↔b < a:=by
 show 0 < ij a b↔_
 unfold ij
 split
 ·rename_i h;exact ⟨fun j=>by omega,fun j=>by grind⟩
 ·split
  ·rename_i h;exact ⟨fun _=>h,fun _=>by omega⟩
  ·rename_i h;exact ⟨fun j=>by omega,fun j=>absurd j h⟩
section
variable {n0 : Nat} {f0 : Nat → Nat → AV} {m0 : Nat} {g0 : Nat → Nat → AV} {zb : Bool} {zn zd : BA} {n : Nat} {ts ps : List Value}
theorem abQ (h:c9 n ts n ps) (j:Nat) (J:j+1 < n):V.Ends Tryz.prog false 5 0 (lb 88 fp) (gX ((j+1:Nat):Int) n0 f0 m0 g0 zb zn zd (ad.qn (aV ts ps j)) (ad.qs (aV ts ps j)) (ad.qd (aV ts ps j)) n ts n ps) (gH ((j+1:Nat):Int) n0 f0 m0 g0 zb zn zd (ad.qn (aV ts ps j)) (ad.qs (aV ts ps j)) (ad.qd (aV ts ps j)) n ts n ps) .normal (gX ((j+1+1:Nat):Int) n0 f0 m0 g0 zb zn zd (ad.qn (aV ts ps (j+1))) (ad.qs (aV ts ps (j+1))) (ad.qd (aV ts ps (j+1))) n ts n ps) (gH ((j+1+1:Nat):Int) n0 f0 m0 g0 zb zn zd (ad.qn (aV ts ps (j+1))) (ad.qs (aV ts ps (j+1))) (ad.qd (aV ts ps (j+1))) n ts n ps):=by
 have bD:=h.ts.ai
 obtain ⟨M,N⟩:=cm (h.ts.ok j (by omega))
 obtain ⟨O,S⟩:=cm (h.ts.ok (j+1) J)
 obtain ⟨⟨U,Z⟩,ab,a0⟩:=cY (h.dh j (by omega))
 obtain ⟨⟨a1,a2⟩,a3,a4⟩:=cY (h.dh (j+1) J)
 obtain ⟨b0,b1,b2,b3,b4,b5⟩:=vk h J
 have b6:=CY h j (by omega)
 have G:=Ns a8 cC ad ((j+1:Nat):Int) n0 f0 m0 g0 zb zn zd (ad.qn (aV ts ps j)) (ad.qs (aV ts ps j)) (ad.qd (aV ts ps j)) n ts n ps
 have a5:((j+1:Nat):Int) - 1=(j:Int):=by omega
 have a7:(px ps (j+1) - px ps j)*(px ps (j+1) - px ps j)+(py ps (j+1) - py ps j)*(py ps (j+1) - py ps j)=ft ps j:=rfl
 have a6:(qt ts (j+1) - qt ts j)*(qt ts (j+1) - qt ts j)=fq ts j:=rfl
 simp only [a5,Int.toNat_natCast,kT,yA,yB,gT,a7,a6] at G
 rw [dT (show ((j+1:Nat):Int) < (n:Int) by omega),dT (show (0:Int)≤((j+1:Nat):Int) by omega),aO (z:=(j:Int)) (by omega),dT (show (0:Int)≤(j:Int) by omega),dT (show (j:Int) < (n:Int) by omega),M,cy N,O,cy S,U,Z,ab,a0,a1,a2,a3,a4,
  yg (q:=px ps (j+1) - px ps j) (by omega),yg (q:=py ps (j+1) - py ps j) (by omega),df (q:=qt ts (j+1) - qt ts j) (by omega),df (q:=ft ps j) (by omega),df (q:=fq ts j) (by omega),df (q:=ft ps j / fq ts j) (by omega),df (q:=aV ts ps j) (by omega),aO (z:=((j+1:Nat):Int)+1) (by omega)] at G
 by_cases I:aV ts ps j < ft ps j / fq ts j
 ·rw [dT (xp.2 I)] at G
  have em:aV ts ps (j+1)=ft ps j / fq ts j:=if_pos I
  rw [em]
  exact Fb G
 ·rw [dF (fun bx=>I (xp.1 bx))] at G
  have em:aV ts ps (j+1)=aV ts ps j:=if_neg I
  rw [em]
  exact Fb G
theorem abP (h:c9 n ts n ps) (k:Nat):∀ j,n=j+1+k→bQ Tryz.prog 5 (lb 88 fp) (gX ((j+1:Nat):Int) n0 f0 m0 g0 zb zn zd (ad.qn (aV ts ps j)) (ad.qs (aV ts ps j)) (ad.qd (aV ts ps j)) n ts n ps) (gH ((j+1:Nat):Int) n0 f0 m0 g0 zb zn zd (ad.qn (aV ts ps j)) (ad.qs (aV ts ps j)) (ad.qd (aV ts ps j)) n ts n ps) (.exit 0) (gX (n:Int) n0 f0 m0 g0 zb zn zd (ad.qn (aV ts ps (n - 1))) (ad.qs (aV ts ps (n - 1))) (ad.qd (aV ts ps (n - 1))) n ts n ps) (gH (n:Int) n0 f0 m0 g0 zb zn zd (ad.qn (aV ts ps (n - 1))) (ad.qs (aV ts ps (n - 1))) (ad.qd (aV ts ps (n - 1))) n ts n ps):=by
 induction k with
 | zero=>
  intro j G
  have:n=j+1:=by omega
  subst this
  refine .last (Fb ?_) (by intro h;cases h)
  rw [Ns,dF (show ¬ ((j+1:Nat):Int) < ((j+1:Nat):Int) by omega)]
  rfl
 | succ k I=>
  intro j G
  exact .more (abQ h j (by omega)) (I (j+1) (by omega))
end
def uQ (i:Int) (n0:Nat) (f0:Nat→Nat→AV) (m0:Nat) (g0:Nat→Nat→AV) (zb:Bool) (zn zd:BA) (j:Bool) (mn md:BA) (n:Nat) (ts:List Value) (m:Nat) (ps:List Value):Prop:=i=1∧n=m∧j=ad.qn 0∧mn=ad.qs 0∧md=ad.qd 0∧c9 n ts m ps
def DJ (i:Int) (n0:Nat) (f0:Nat→Nat→AV) (m0:Nat) (g0:Nat→Nat→AV) (zb:Bool) (zn zd:BA) (j:Bool) (mn md:BA) (n:Nat) (ts:List Value) (m:Nat) (ps:List Value) (ρ:Int×Bool×BA×BA):Prop:=ρ.2=(ad.qn (aV ts ps (n - 1)),ad.qs (aV ts ps (n - 1)),ad.qd (aV ts ps (n - 1)))
theorem Yl (i:Int) (n0:Nat) (f0:Nat→Nat→AV) (m0:Nat) (g0:Nat→Nat→AV) (zb:Bool) (zn zd:BA) (j:Bool) (mn md:BA) (n:Nat) (ts:List Value) (m:Nat) (ps:List Value) (h:uQ i n0 f0 m0 g0 zb zn zd j mn md n ts m ps):∃ ρ:Int×Bool×BA×BA,bQ Tryz.prog 5 (lb 88 fp) (gX i n0 f0 m0 g0 zb zn zd j mn md n ts m ps) (gH i n0 f0 m0 g0 zb zn zd j mn md n ts m ps) (.exit 0) (gX ρ.1 n0 f0 m0 g0 zb zn zd ρ.2.1 ρ.2.2.1 ρ.2.2.2 n ts m ps) (gH ρ.1 n0 f0 m0 g0 zb zn zd ρ.2.1 ρ.2.2.1 ρ.2.2.2 n ts m ps)∧DJ i n0 f0 m0 g0 zb zn zd j mn md n ts m ps ρ:=by
 obtain ⟨rfl,rfl,rfl,rfl,rfl,G⟩:=h
 have I:=G.pos
 exact ⟨((n:Int),_,_,_),abP G (n - 1) 0 (by omega),rfl⟩
def GC (N:Int→Nat→(Nat→Nat→AV)→Nat→(Nat→Nat→AV)→Bool→ByteArray→ByteArray→Bool→ByteArray→ByteArray→Nat→List Value→Nat→List Value→Bool) (J:Int→Nat→(Nat→Nat→AV)→Nat→(Nat→Nat→AV)→Bool→ByteArray→ByteArray→Bool→ByteArray→ByteArray→Nat→List Value→Nat→List Value→Int×Bool×ByteArray×ByteArray) (T:List AV) (H:Hp):Option (Bool×Ex×List AV×Hp):=
 match al T 0,al T 1,al T 3,H with
 | .yld 4, .ptr 3 0, .val (.int .i64 i), [.row (.cells [.lst false 27 n0 f0,.lst false 35 m0 g0]) 25 .live, .row (.cells [.val (.bool zb), .val (.string zn), .val (.string zd)]) 27 .live, .row (.cells [.val (.bool I), .val (.string mn), .val (.string md)]) 27 .live, .row (.cells [.lst false 27 n G, .lst false 35 m j]) 25 .live, .loop M]=>bif T.length==40 then some (au 3 n G&&au 6 m j&&DV M&&N i n0 f0 m0 g0 zb zn zd I mn md n (af 3 n G) m (af 6 m j), .exit 0,gX ((J i n0 f0 m0 g0 zb zn zd I mn md n (af 3 n G) m (af 6 m j)).1) n0 f0 m0 g0 zb zn zd ((J i n0 f0 m0 g0 zb zn zd I mn md n (af 3 n G) m (af 6 m j)).2.1) ((J i n0 f0 m0 g0 zb zn zd I mn md n (af 3 n G) m (af 6 m j)).2.2.1) ((J i n0 f0 m0 g0 zb zn zd I mn md n (af 3 n G) m (af 6 m j)).2.2.2) n (af 3 n G) m (af 6 m j),gH ((J i n0 f0 m0 g0 zb zn zd I mn md n (af 3 n G) m (af 6 m j)).1) n0 f0 m0 g0 zb zn zd ((J i n0 f0 m0 g0 zb zn zd I mn md n (af 3 n G) m (af 6 m j)).2.1) ((J i n0 f0 m0 g0 zb zn zd I mn md n (af 3 n G) m (af 6 m j)).2.2.1) ((J i n0 f0 m0 g0 zb zn zd I mn md n (af 3 n G) m (af 6 m j)).2.2.2) n (af 3 n G) m (af 6 m j)) else none
 | _,_,_,_=>none
abbrev IK:Type:=Int→Nat→(Nat→Nat→AV)→Nat→(Nat→Nat→AV)→Bool→ByteArray→ByteArray→Bool→ByteArray→ByteArray→Nat→List Value→Nat→List Value→Bool
abbrev Ic:Type:=Int→Nat→(Nat→Nat→AV)→Nat→(Nat→Nat→AV)→Bool→ByteArray→ByteArray→Bool→ByteArray→ByteArray→Nat→List Value→Nat→List Value→Int×Bool×ByteArray×ByteArray
def wq (j:IK) (G:Ic) (L:aE):aE:=bp 5 88 fp [0,1,3,1004] (GC j G) L
def gS (i:Int) (n0:Nat) (f0:Nat→Nat→AV) (m0:Nat) (g0:Nat→Nat→AV) (zb:Bool) (zn:ByteArray) (zd:ByteArray) (j:Bool) (mn:ByteArray) (md:ByteArray) (n:Nat) (ts:List Value) (m:Nat) (ps:List Value):Int×Bool×ByteArray×ByteArray:=Classical.epsilon fun ρ=>bQ Tryz.prog 5 (lb 88 fp) (gX i n0 f0 m0 g0 zb zn zd j mn md n ts m ps) (gH i n0 f0 m0 g0 zb zn zd j mn md n ts m ps) (.exit 0) (gX (ρ.1) n0 f0 m0 g0 zb zn zd (ρ.2.1) (ρ.2.2.1) (ρ.2.2.2) n ts m ps) (gH (ρ.1) n0 f0 m0 g0 zb zn zd (ρ.2.1) (ρ.2.2.1) (ρ.2.2.2) n ts m ps)∧DJ i n0 f0 m0 g0 zb zn zd j mn md n ts m ps ρ
theorem MK (i:Int) (n0:Nat) (f0:Nat→Nat→AV) (m0:Nat) (g0:Nat→Nat→AV) (zb:Bool) (zn:ByteArray) (zd:ByteArray) (j:Bool) (mn:ByteArray) (md:ByteArray) (n:Nat) (ts:List Value) (m:Nat) (ps:List Value) (h:uQ i n0 f0 m0 g0 zb zn zd j mn md n ts m ps):bQ Tryz.prog 5 (lb 88 fp) (gX i n0 f0 m0 g0 zb zn zd j mn md n ts m ps) (gH i n0 f0 m0 g0 zb zn zd j mn md n ts m ps) (.exit 0) (gX ((gS i n0 f0 m0 g0 zb zn zd j mn md n ts m ps).1) n0 f0 m0 g0 zb zn zd ((gS i n0 f0 m0 g0 zb zn zd j mn md n ts m ps).2.1) ((gS i n0 f0 m0 g0 zb zn zd j mn md n ts m ps).2.2.1) ((gS i n0 f0 m0 g0 zb zn zd j mn md n ts m ps).2.2.2) n ts m ps) (gH ((gS i n0 f0 m0 g0 zb zn zd j mn md n ts m ps).1) n0 f0 m0 g0 zb zn zd ((gS i n0 f0 m0 g0 zb zn zd j mn md n ts m ps).2.1) ((gS i n0 f0 m0 g0 zb zn zd j mn md n ts m ps).2.2.1) ((gS i n0 f0 m0 g0 zb zn zd j mn md n ts m ps).2.2.2) n ts m ps)∧DJ i n0 f0 m0 g0 zb zn zd j mn md n ts m ps (gS i n0 f0 m0 g0 zb zn zd j mn md n ts m ps):=Classical.epsilon_spec (Yl i n0 f0 m0 g0 zb zn zd j mn md n ts m ps h)
def sS (i:Int) (n0:Nat) (f0:Nat→Nat→AV) (m0:Nat) (g0:Nat→Nat→AV) (zb:Bool) (zn:ByteArray) (zd:ByteArray) (j:Bool) (mn:ByteArray) (md:ByteArray) (n:Nat) (ts:List Value) (m:Nat) (ps:List Value):Bool:= @decide (uQ i n0 f0 m0 g0 zb zn zd j mn md n ts m ps) (Classical.propDecidable _)
theorem Uq (i:Int) (n0:Nat) (f0:Nat→Nat→AV) (m0:Nat) (g0:Nat→Nat→AV) (zb:Bool) (zn:ByteArray) (zd:ByteArray) (j:Bool) (mn:ByteArray) (md:ByteArray) (n:Nat) (ts:List Value) (m:Nat) (ps:List Value) (h:uQ i n0 f0 m0 g0 zb zn zd j mn md n ts m ps):sS i n0 f0 m0 g0 zb zn zd j mn md n ts m ps=true:= @decide_eq_true _ (Classical.propDecidable _) h
theorem adQ (T:List AV) (H:Hp) (e:Ex) (I:List AV) (G:Hp) (h:GC sS gS T H=some (true,e,I,G)):V.Ends Tryz.prog false 5 0 (.loop (lb 88 fp)) T H e I G:=by
 unfold GC at h
 split at h
 ·rename_i i n0 f0 m0 g0 zb zn zd a5 mn md n O m N a6 S U Z
  rw [Bool.cond_eq_ite] at h
  split at h
  ·rename_i J
   rw [beq_iff_eq] at J
   simp only [Option.some.injEq,Prod.mk.injEq,Bool.and_eq_true,decide_eq_true_eq] at h
   obtain ⟨⟨⟨⟨k1,a1⟩,a2⟩,a3⟩,rfl,rfl,rfl⟩:=h
   obtain rfl:a6=iM:=aah a2
   have a4:= @of_decide_eq_true _ (Classical.propDecidable _) a3
   refine Ends.pre (Ends.cS (MK i n0 f0 m0 g0 zb zn zd a5 mn md n (af 3 n O) m (af 6 m N) a4).1.ends (aT.cons (bI.refl _) (aT.cons (bI.refl _) (aT.cons (bI.refl _) (aT.cons ⟨⟨rfl,fun _ _ _ _ _ ab=>ei (by kernel_rfl) (by kernel_rfl) k1 a1 ab⟩,rfl,rfl⟩ (aT.cons (bI.refl _) aT.nil)))))) (fun α B w D a7 a0=>bm J (fun p M y j=> ?_) a0)
   simp only [List.mem_cons,List.not_mem_nil,or_false] at M
   rcases M with rfl | rfl | rfl
   ·rw [S] at j;exact j
   ·rw [U] at j;exact j
   ·rw [Z] at j;exact j
  ·cases h
 ·cases h
theorem QF {L:aE} (h:aB Tryz.prog L):aB Tryz.prog (wq sS gS L):=h.br RP adQ
end
end Go.Proofs.YtamcpiicmfielaaGreat.L
namespace Go.Proofs.YtamcpiicmfielaaGreat.L
open Go Go.V Go.RowKit Go.Proofs.YtamcpiicmfielaaGreat.Sp
open Go.Proofs (Tryz.prog)
noncomputable section
structure Pg where
 sv:Nat→List Value→Nat→List Value→Rat
 se:Nat→List Value→Nat→List Value→Int
def spE (n:Nat) (ts:List Value) (m:Nat) (ps:List Value):Int:=if bJ n ts m ps=0 then 0 else 1
def dg:Pg where
 sv n ts m ps:=if bJ n ts m ps=0 then aV ts ps (n - 1) else 0
 se:=spE
def rH (C:Cg) (P:Pg) (j:Qg):TF:=fun args=>match args with
 | [.agg [.lst _ 27 n f, .lst _ 35 m g]]=>some (au 3 n f&&au 6 m g&&C.ko n (af 3 n f) m (af 6 m g), .tup [j.rat (P.sv n (af 3 n f) m (af 6 m g)), .val (.int .i64 (P.se n (af 3 n f) m (af 6 m g)))])
 | _=>none
theorem abR (C:Cg) (J:IK) (M:Ic) (n:Nat) (ts:List Value) (m:Nat) (ps:List Value):letI j:=(af (3:Nat) n (ag (3:Nat) ts));letI G:=(af (6:Nat) m (ag (6:Nat) ps));letI I:=(M (1:Int) n (ag (3:Nat) ts) m (ag (6:Nat) ps) false (ByteArray.mk #[]) (ByteArray.mk #[]) false (ByteArray.mk #[]) (ByteArray.mk #[]) n j m G);
  (aD Tryz.prog ⟨an 18 (eE C) aF,fun _=>false,wq J M aq⟩ 10 10 10 [bH n ts m ps]=(bif au (3:Nat) n (ag (3:Nat) ts)&&au (6:Nat) m (ag (6:Nat) ps)&&C.ko n j m G then (bif !decide (C.ck n j m G=(0:Int)) then some (.tup [(.agg [(.val (.bool false)),(.val (.string (ByteArray.mk #[]))),(.val (.string (ByteArray.mk #[])))]),(.val (.int .i64 1))]) else (bif au (3:Nat) n (ag (3:Nat) ts)&&au (6:Nat) m (ag (6:Nat) ps)&&true&&J (1:Int) n (ag (3:Nat) ts) m (ag (6:Nat) ps) false (ByteArray.mk #[]) (ByteArray.mk #[]) false (ByteArray.mk #[]) (ByteArray.mk #[]) n j m G then some (.tup [(.agg [(.val (.bool (I.snd.fst))),(.val (.string (I.snd.snd.fst))),(.val (.string (I.snd.snd.snd)))]),(.val (.int .i64 0))]) else none)) else none)):=by kernel_rfl
theorem abS (n:Nat) (ts:List Value) (m:Nat) (ps:List Value) (l1:ts.length=n*3) (l2:ps.length=m*6) (J:cW n ts m ps=true):
  aD Tryz.prog ⟨an 18 (eE aW) aF,fun _=>false,wq sS gS aq⟩ 10 10 10 [bH n ts m ps]=some (.tup [ad.rat (dg.sv n ts m ps), .val (.int .i64 (dg.se n ts m ps))]):=by
 rw [abR,bc l1,bc l2,bn,bn,show aW.ko n ts m ps=true from J]
 by_cases h:bJ n ts m ps=0
 ·have I:=tQ J h
  have G:dg.sv n ts m ps=aV ts ps (n - 1):=if_pos h
  have j:dg.se n ts m ps=0:=if_pos h
  have M:uQ 1 n (ag 3 ts) m (ag 6 ps) false (ByteArray.mk #[]) (ByteArray.mk #[]) false (ByteArray.mk #[]) (ByteArray.mk #[]) n ts m ps:= ⟨rfl,I.eq,uY.symm,u5.symm,uX.symm,I⟩
  have N:=(MK _ _ _ _ _ _ _ _ _ _ _ _ _ _ _ M).2
  rw [dT (show aW.ck n ts m ps=0 from h),Uq _ _ _ _ _ _ _ _ _ _ _ _ _ _ _ M,G,j]
  rw [show (gS 1 n (ag 3 ts) m (ag 6 ps) false (ByteArray.mk #[]) (ByteArray.mk #[]) false (ByteArray.mk #[]) (ByteArray.mk #[]) n ts m ps).2=(ad.qn (aV ts ps (n - 1)),ad.qs (aV ts ps (n - 1)),ad.qd (aV ts ps (n - 1))) from N]
  rfl
 ·have G:dg.sv n ts m ps=0:=if_neg h
  have j:dg.se n ts m ps=1:=if_neg h
  rw [dF (show ¬ aW.ck n ts m ps=0 from h),G,j,nO];rfl
theorem B6:Entry Tryz.prog 10 (rH aW dg ad):=by
 refine dI (by kernel_rfl) (fun args r h=> ?_)
 unfold rH at h
 split at h
 ·rename_i fl n f J m g
  simp only [Option.some.injEq,Prod.mk.injEq,Bool.and_eq_true] at h
  obtain ⟨⟨⟨j,G⟩,I⟩,rfl⟩:=h
  exact ⟨⟨an 18 (eE aW) aF,fun _=>false,wq sS gS aq⟩,10,10,_,_,(aH _).add nv,(QF aB.none).ok,abS n _ m _ (bP 3 n f) (bP 6 m g) I,ba.cons (fE j G) (ba.refl _),bu.refl _⟩
 ·cases h
end
end Go.Proofs.YtamcpiicmfielaaGreat.L
namespace Go.Proofs.YtamcpiicmfielaaGreat.L
open Go Go.V Go.RowKit Go.Proofs.YtamcpiicmfielaaGreat.Sp
open Go.Proofs (Tryz.prog)
noncomputable section
def rW (C:Cg) (j:Qg):FuncId→TF:=an 18 (eE C) (an 49 (ma j) aF)
theorem J1 (C:Cg) (J:Qg) (M:Ij) (N:HG) (n:Nat) (ts:List Value) (m:Nat) (ps:List Value) (xb:Bool) (xn xd:BA):letI I:=(af (3:Nat) n (ag (3:Nat) ts));letI j:=(af (6:Nat) m (ag (6:Nat) ps));letI G:=(N (0:Int) n I (↑n:Int) (0:Int) xb xn xd ((0:Nat)+m) j);
  (aD Tryz.prog ⟨rW C J,ar,r8 M N aq⟩ 10 10 14 [bH n ts m ps,w3 xb xn xd]=(bif au (3:Nat) n (ag (3:Nat) ts)&&au (6:Nat) m (ag (6:Nat) ps)&&C.ko n I m j then (bif !decide (C.ck n I m j=(0:Int)) then some (.tup [(.agg [(.val (.slice .none 0 0)),(.val (.slice .none 0 0))]),(.val (.int .i64 1))]) else (bif J.ok xn xd then (bif !decide (J.ck xb xn xd=(0:Int)) then some (.tup [(.agg [(.val (.slice .none 0 0)),(.val (.slice .none 0 0))]),(.val (.int .i64 1))]) else (bif decide ((0:Nat) < m) then (bif au (6:Nat) m (ag (6:Nat) ps) then (bif cA Tryz.prog ((0:Nat)+m) (35:Nat)&&(aC.vals j).oi then (bif decide (m=(0:Nat)) then none else (bif au (3:Nat) n (ag (3:Nat) ts)&&M (0:Int) n I (↑n:Int) (0:Int) xb xn xd ((0:Nat)+m) j then (bif decide ((0:Nat)+G.snd.fst*(3:Nat)≤(aC.vals G.snd.snd).len) then (bif decide ((0:Nat)+((0:Nat)+m)*(6:Nat)≤(aC.vals j).len) then some (.tup [(.agg [(.lst false 27 (G.snd.fst) (ig (aC.vals G.snd.snd) [] (0:Nat) (3:Nat))),(.lst false 35 ((0:Nat)+m) (ig (aC.vals j) [] (0:Nat) (6:Nat)))]),(.val (.int .i64 0))]) else none) else none) else none)) else none) else none) else none)) else none)) else none)):=by kernel_rfl
structure Dg where
 dk:Nat→List Value→Nat→List Value→Bool→BA→BA→Bool
 dt:Nat→List Value→Rat→List Value
def ll (n:Nat) (ts:List Value) (m:Nat) (ps:List Value) (xb:Bool) (xn xd:BA):Bool:=cW n ts m ps&&(bo xn xd&&(decide (bJ n ts m ps=0)&&decide (ad.ck xb xn xd=0)))
def ik:Dg where
 dk:=ll
 dt n ts x:=aP n (fun j=>qt ts j+x)
def nW (D:Dg) (j:Qg):TF:=fun args=>match args with
 | [.agg [.lst _ 27 n f, .lst _ 35 m g], .agg [.val (.bool xb), .val (.string xn), .val (.string xd)]]=>some (au 3 n f&&au 6 m g&&D.dk n (af 3 n f) m (af 6 m g) xb xn xd, .tup [bH n (D.dt n (af 3 n f) (j.qv xb xn xd)) m (af 6 m g), .val (.int .i64 0)])
 | _=>none
theorem ow {n:Nat} {ts:List Value} {m:Nat} {ps:List Value} {xb:Bool} {xn xd:BA} (h:ll n ts m ps xb xn xd=true):cW n ts m ps=true∧bo xn xd=true∧bJ n ts m ps=0∧ad.ck xb xn xd=0:=by
 unfold ll at h
 rwa [Bool.and_eq_true,Bool.and_eq_true,Bool.and_eq_true,decide_eq_true_eq,decide_eq_true_eq] at h
theorem G0:bb Tryz.prog (rW aW ad):=((aH _).add oz).add nv
theorem ov (sz:Nat) (vs:List Value):ig (.vals vs) [] 0 sz=ag sz vs:=by
 funext j q
 show AV.val (vs.getD (0+j*sz+q) undef)=_
 rw [Nat.zero_add];rfl
theorem M1 {m:Nat} (h:m≤2000):cA Tryz.prog m 35=true:=by
 have e:Tryz.prog.bytesOf 35=80:=by kernel_rfl
 unfold cA
 rw [e,decide_eq_true (show m*80≤140737488355328 by omega),decide_eq_true (show m≤9223372036854775807 by omega)];rfl
theorem Be {n:Nat} {ps:List Value} (a1:ps.length=n*6) (h:∀ G,G < n→cP ps G=true):(aC.vals ps).oi=true:=by
 show ps.all (·.oneCell')=true
 rw [List.all_eq_true]
 intro v ab
 obtain ⟨i,U,rfl⟩:=List.getElem_of_mem ab
 have Z:i / 6 < n:=by omega
 obtain ⟨⟨k1,a0⟩,_,_⟩:=cY (h _ Z)
 obtain ⟨I,J,M⟩:=fe k1
 obtain ⟨N,O,S⟩:=fe a0
 have e:ps[i]=ps.getD (i / 6*6+i % 6) undef:=by
  rw [Nat.div_add_mod',List.getD_eq_getElem?_getD,List.getElem?_eq_getElem U];rfl
 rw [e]
 have j:i % 6=0∨i % 6=1∨i % 6=2∨i % 6=3∨i % 6=4∨i % 6=5:=by omega
 rcases j with j | j | j | j | j | j <;> rw [j]
 ·rw [I];rfl
 ·rw [J];rfl
 ·rw [M];rfl
 ·rw [N];rfl
 ·rw [O];rfl
 ·rw [S];rfl
theorem UA (n:Nat) (ts:List Value) (m:Nat) (ps:List Value) (xb:Bool) (xn xd:BA) (l1:ts.length=n*3) (l2:ps.length=m*6) (O:ll n ts m ps xb xn xd=true):
  aD Tryz.prog ⟨rW aW ad,ar,r8 qf iJ aq⟩ 10 10 14 [bH n ts m ps,w3 xb xn xd]=some (.tup [bH n (aP n (fun j=>qt ts j+ad.qv xb xn xd)) m ps, .val (.int .i64 0)]):=by
 obtain ⟨k1,I,J,ab⟩:=ow O
 obtain ⟨rfl,M,N,_⟩:=nm J
 obtain ⟨Z,S⟩:=nE k1
 have G:tU 0 n ts n 0 xb xn xd n ps:= ⟨rfl,rfl,M,N,Z,I⟩
 have U:=(Mb _ _ _ _ _ _ _ _ _ _ G).2
 rw [J1,bc l1,bc l2,bn,bn,show aW.ko n ts n ps=true from k1,dT (show aW.ck n ts n ps=0 from J),cy I,dT ab,dT (show 0 < n by omega),dF (show ¬ n=0 by omega),Nat.zero_add,M1 (by omega),Be l2 S,
  TE _ _ _ _ _ _ _ _ _ _ G,show (iJ 0 n ts n 0 xb xn xd n ps).2=(n,aP n (fun j=>qt ts j+ad.qv xb xn xd)) from U,
  ov,ov,dT (show 0+n*3≤(aC.vals (aP n (fun j=>qt ts j+ad.qv xb xn xd))).len from by show _≤(aP _ _).length;rw [eU];omega),dT (show 0+n*6≤(aC.vals ps).len from by show _≤ps.length;omega)]
 rfl
theorem J5:Entry Tryz.prog 14 (nW ik ad):=by
 refine dI (by kernel_rfl) (fun args r h=> ?_)
 unfold nW at h
 split at h
 ·rename_i fl n f J m g xb xn xd
  simp only [Option.some.injEq,Prod.mk.injEq,Bool.and_eq_true] at h
  obtain ⟨⟨⟨j,G⟩,I⟩,rfl⟩:=h
  exact ⟨⟨rW aW ad,ar,r8 qf iJ aq⟩,10,10,_,_,G0,(IT aB.none).ok,UA n _ m _ xb xn xd (bP 3 n f) (bP 6 m g) I,ba.cons (fE j G) (ba.refl _),bu.refl _⟩
 ·cases h
end
end Go.Proofs.YtamcpiicmfielaaGreat.L
namespace Go.Proofs.YtamcpiicmfielaaGreat.L
open Go Go.V Go.RowKit Go.Proofs.YtamcpiicmfielaaGreat.Sp
open Go.Proofs (Tryz.prog)
noncomputable section
section
variable {n : Nat} {q : Nat → Rat}
theorem Y2 {G:Nat} (j:G < n):cR (aP n q) G=true:=by
 unfold cR
 rw [Bu n q j,Bw n q j,Bv n q j];rfl
theorem LM (G:n≤1000):fI n (aP n q)=true:=by
 unfold fI
 rw [Bool.and_eq_true,decide_eq_true_eq,List.all_eq_true]
 exact ⟨by omega,fun I j=>Y2 (List.mem_range.1 j)⟩
end
end
end Go.Proofs.YtamcpiicmfielaaGreat.L
