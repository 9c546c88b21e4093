import Derived.Test.YtamcpiicmfielaaGreatZHZ
import Derived.Deep.Slices
import Derived.Carry
import Derived.ChangeOld
import Derived.Lib.SmallJoins
set_option linter.unusedVariables false
set_option linter.unusedSimpArgs false
namespace Go.Proofs.YtamcpiicmfielaaGreat.L
open Go Go.V Go.RowKit Go.Proofs.YtamcpiicmfielaaGreat.Sp
open Go.Proofs (Tryz.prog)
noncomputable section
def wb (I:Cg) (V:Vg) (G:Qg):FuncId→TF:=au 18 (pS I) (au 49 (oe G) (au 50 (Fy V G) aM))
theorem Q6 (M:Cg) (V:Vg) (G:Qg) (n:Nat) (ts:List Value) (m:Nat) (ps:List Value) (xb:Bool) (xn xd:BA):letI I:=(ai 3 n (af 3 ts));letI J:=(ai 6 m (af 6 ps));
  (aG Tryz.prog ⟨wb M V G,az,aq⟩ 10 10 12 [bO n ts m ps,w3 xb xn xd]=(bif aw 3 n (af 3 ts)&&aw 6 m (af 6 ps)&&M.ko n I m J then (bif !decide (M.ck n I m J=0) then some (.tup [(.agg [(.val (.bool false)),(.val (.string (ByteArray.mk #[]))),(.val (.string (ByteArray.mk #[]))),(.val (.bool false)),(.val (.string (ByteArray.mk #[]))),(.val (.string (ByteArray.mk #[])))]),(.val (.int .i64 1))]) else (bif G.ok xn xd then (bif !decide (G.ck xb xn xd=0) then some (.tup [(.agg [(.val (.bool false)),(.val (.string (ByteArray.mk #[]))),(.val (.string (ByteArray.mk #[]))),(.val (.bool false)),(.val (.string (ByteArray.mk #[]))),(.val (.string (ByteArray.mk #[])))]),(.val (.int .i64 1))]) else (bif aw 3 n (af 3 ts)&&aw 6 m (af 6 ps)&&V.pk n I m J xn xd then some (.tup [(.agg [(.val (.bool (G.qn (V.ui n I J (G.qv xb xn xd))))),(.val (.string (G.qs (V.ui n I J (G.qv xb xn xd))))),(.val (.string (G.qd (V.ui n I J (G.qv xb xn xd))))),(.val (.bool (G.qn (V.uj n I J (G.qv xb xn xd))))),(.val (.string (G.qs (V.uj n I J (G.qv xb xn xd))))),(.val (.string (G.qd (V.uj n I J (G.qv xb xn xd)))))]),(.val (.int .i64 0))]) else none)) else none)) else none)):=by kernel_rfl
structure Ag where
 ak:Nat→List Value→Nat→List Value→BA→BA→Bool
 ae:Nat→List Value→Nat→List Value→Bool→BA→BA→Int
 ax:Nat→List Value→Nat→List Value→Bool→BA→BA→Rat
 ay:Nat→List Value→Nat→List Value→Bool→BA→BA→Rat
def lg (n:Nat) (ts:List Value) (m:Nat) (ps:List Value) (xb:Bool) (xn xd:BA):Int:=if bb n ts m ps=0∧ad.ck xb xn xd=0 then 0 else 1
def dS:Ag where
 ak n ts m ps xn xd:=bQ n ts m ps&&cH xn xd
 ae:=lg
 ax n ts m ps xb xn xd:=if lg n ts m ps xb xn xd=0 then bG n ts (px ps) (ad.qv xb xn xd) else 0
 ay n ts m ps xb xn xd:=if lg n ts m ps xb xn xd=0 then bG n ts (py ps) (ad.qv xb xn xd) else 0
def Fi (A:Ag) (G:Qg):TF:=fun args=>match args with
 | [.agg [.lst _ 27 n f, .lst _ 35 m g], .agg [.val (.bool xb), .val (.string xn), .val (.string xd)]]=>some (aw 3 n f&&aw 6 m g&&A.ak n (ai 3 n f) m (ai 6 m g) xn xd, .tup [G.pair (A.ax n (ai 3 n f) m (ai 6 m g) xb xn xd) (A.ay n (ai 3 n f) m (ai 6 m g) xb xn xd), .val (.int .i64 (A.ae n (ai 3 n f) m (ai 6 m g) xb xn xd))])
 | _=>none
theorem fo {n:Nat} {ts:List Value} {m:Nat} {ps:List Value} (h:bb n ts m ps=0):n=m∧0 < n∧n≤1000∧∀ j,j < n→bE ts ps j=0:=by
 unfold bb at h
 split at h
 ·cases h
 ·rename_i G
  split at h
  ·cases h
  ·split at h
   ·cases h
   ·exact ⟨Classical.not_not.1 G,by omega,by omega,BR h⟩
theorem iL {n:Nat} {ts:List Value} {m:Nat} {ps:List Value} (O:bQ n ts m ps=true) (h:bb n ts m ps=0):oz n ts m ps:=by
 obtain ⟨rfl,J,M,I⟩:=fo h
 obtain ⟨Z,U⟩:=qU O
 refine ⟨rfl,J, ⟨M,Z,fun j G=> ?_⟩,U,fun j G=>(qA (I j G)).2.1⟩
 have:=(qA (I (j+1) G)).2.2 (by omega)
 rw [qF,Nat.add_sub_cancel] at this
 exact Classical.not_not.1 this
theorem PF:bf Tryz.prog (wb bn dp ad):=(((aK _).add VI).add qI).add JQ
theorem ZN:ad.pair 0 0= .agg [.val (.bool false), .val (.string (ByteArray.mk #[])), .val (.string (ByteArray.mk #[])), .val (.bool false), .val (.string (ByteArray.mk #[])), .val (.string (ByteArray.mk #[]))]:=by
 unfold Qg.pair
 rw [M9,Nb,M8]
theorem Q7 (n:Nat) (ts:List Value) (m:Nat) (ps:List Value) (xb:Bool) (xn xd:BA) (l1:ts.length=n*3) (l2:ps.length=m*6) (I:dS.ak n ts m ps xn xd=true):
  aG Tryz.prog ⟨wb bn dp ad,az,aq⟩ 10 10 12 [bO n ts m ps,w3 xb xn xd]=some (.tup [ad.pair (dS.ax n ts m ps xb xn xd) (dS.ay n ts m ps xb xn xd), .val (.int .i64 (dS.ae n ts m ps xb xn xd))]):=by
 have I:(bQ n ts m ps&&cH xn xd)=true:=I
 rw [Bool.and_eq_true] at I
 obtain ⟨k1,ab⟩:=I
 rw [Q6,bj l1,bj l2,c9,c9,show bn.ko n ts m ps=true from k1,cy ab]
 by_cases h:lg n ts m ps xb xn xd=0
 ·have O:dS.ax n ts m ps xb xn xd=bG n ts (px ps) (ad.qv xb xn xd):=if_pos h
  have U:dS.ay n ts m ps xb xn xd=bG n ts (py ps) (ad.qv xb xn xd):=if_pos h
  have M:dS.ae n ts m ps xb xn xd=0:=h
  rw [O,U,M]
  unfold lg at h
  split at h
  ·rename_i G
   have aE:dp.pk n ts m ps xn xd=true:=by
    show rG n ts m ps xn xd=true
    unfold rG
    rw [@decide_eq_true _ (Classical.propDecidable _) (iL k1 G.1),ab];rfl
   rw [dT (show bn.ck n ts m ps=0 from G.1),dT G.2,aE];rfl
  ·cases h
 ·have O:dS.ax n ts m ps xb xn xd=0:=if_neg h
  have U:dS.ay n ts m ps xb xn xd=0:=if_neg h
  have M:dS.ae n ts m ps xb xn xd=1:=by
   show lg n ts m ps xb xn xd=1
   unfold lg at h ⊢
   split <;> rename_i G
   ·rw [if_pos G] at h;exact absurd rfl h
   ·rfl
  rw [O,U,M,ZN]
  by_cases J:bb n ts m ps=0
  ·by_cases Z:ad.ck xb xn xd=0
   ·exact absurd (by unfold lg;rw [if_pos ⟨J,Z⟩]) h
   ·rw [dT (show bn.ck n ts m ps=0 from J),dF Z];rfl
  ·rw [dF (show ¬ bn.ck n ts m ps=0 from J)];rfl
theorem Vr:Entry Tryz.prog 12 (Fi dS ad):=by
 refine oL (by kernel_rfl) (fun args r h=> ?_)
 unfold Fi at h
 split at h
 ·rename_i fl n f M m g xb xn xd
  simp only [Option.some.injEq,Prod.mk.injEq,Bool.and_eq_true] at h
  obtain ⟨⟨⟨G,I⟩,J⟩,rfl⟩:=h
  exact ⟨⟨wb bn dp ad,az,aq⟩,10,10,_,_,PF,aO,Q7 n _ m _ xb xn xd (dC 3 n f) (dC 6 m g) J,cm.cons (oX G I) (cm.refl _),cI.refl _⟩
 ·cases h
end
end Go.Proofs.YtamcpiicmfielaaGreat.L
namespace Go.Proofs.YtamcpiicmfielaaGreat.L
open Go Go.V Go.RowKit Go.Proofs.YtamcpiicmfielaaGreat.Sp
open Go.Proofs (Tryz.prog)
noncomputable section
def js (ts:List Value) (j:Nat):Bool:=bd.gr (ag (ts.getD (j*3+1) undef)) (ag (ts.getD (j*3+2) undef))
abbrev eE:List Bool:= [false,true,false,true]
def eQ (r:Bool) (i:Int) (n:Nat) (ts:List Value) (m:Nat) (ps:List Value):List AV:=ao 38 [(1, .ptr 0 0),(2, .val (.bool r)),(3, .val (.int .i64 i))]
def ee (r:Bool) (i:Int) (n:Nat) (ts:List Value) (m:Nat) (ps:List Value):Hp:= [.row (.cells [.lst false 27 n (af 3 ts), .lst false 35 m (af 6 ps)]) 25 .live]
theorem Rp:aI Tryz.prog 7 eE=some (.loop (lb 7 eE)):=by kernel_rfl
theorem Tb:aI Tryz.prog 7 (false :: eE)=some (lb 7 eE):=by kernel_rfl
theorem Ee (K:Hg) (r:Bool) (i:Int) (n:Nat) (ts:List Value) (m:Nat) (ps:List Value):aP Tryz.prog (wo K) 7 [1,2,3] (lb 7 eE) (false :: eE) (eQ r i n ts m ps) (ee r i n ts m ps)=
  (bif decide (i < (↑n:Int)) then (bif decide (0≤i)&&decide (i < (↑n:Int)) then (bif aL (ts.getD (i.toNat*3+0) undef) (ts.getD (i.toNat*3+1) undef) (ts.getD (i.toNat*3+2) undef)&&true then (bif K.gr (ag (ts.getD (i.toNat*3+1) undef)) (ag (ts.getD (i.toNat*3+2) undef)) then some (.ret,ao 38 [(1,(.ptr 0 0)),(2,(.val (.bool true))),(3,(.val (.int .i64 i)))], [(.row (.cells [(.lst false 27 n (af 3 ts)),(.lst false 35 m (af 6 ps))]) 25 .live)]) else (bif ah IntKind.i64 (i+1) then some (.normal,ao 38 [(1,(.ptr 0 0)),(2,(.val (.bool r))),(3,(.val (.int .i64 (i+1))))], [(.row (.cells [(.lst false 27 n (af 3 ts)),(.lst false 35 m (af 6 ps))]) 25 .live)]) else none)) else none) else none) else some ((.exit 0),ao 38 [(1,(.ptr 0 0)),(2,(.val (.bool r))),(3,(.val (.int .i64 i)))], [(.row (.cells [(.lst false 27 n (af 3 ts)),(.lst false 35 m (af 6 ps))]) 25 .live)])):=by kernel_rfl
theorem EZ {r:Bool} {i:Int} {n:Nat} {ts:List Value} {m:Nat} {ps:List Value} {e:Ex} {T:List AV} {H:Hp} (h:aP Tryz.prog (wo bd) 7 [1,2,3] (lb 7 eE) (false :: eE) (eQ r i n ts m ps) (ee r i n ts m ps)=some (e,T,H)):V.Ends Tryz.prog false 0 0 (lb 7 eE) (eQ r i n ts m ps) (ee r i n ts m ps) e T H:=
 bK ((aK _).add xC.gR) aO mixed Tb h
section
variable {r : Bool} {n m : Nat} {ts ps : List Value}
theorem KL (i:Nat) (hi:i < n) (J:n≤9223372036854775807) (h:fe ts i=true) (I:js ts i=false):V.Ends Tryz.prog false 0 0 (lb 7 eE) (eQ r i n ts m ps) (ee r i n ts m ps) .normal (eQ r ((i+1:Nat):Int) n ts m ps) (ee r ((i+1:Nat):Int) n ts m ps):=by
 have G:=Ee bd r i n ts m ps
 unfold fe at h
 unfold js at I
 simp only [Int.toNat_natCast] at G
 rw [dT (show (i:Int) < (n:Int) by omega),dT (show (0:Int)≤(i:Int) by omega),h,I,aJ (z:=(i:Int)+1) (by omega)] at G
 exact EZ G
theorem WO (i:Nat) (hi:i < n) (h:fe ts i=true) (I:js ts i=true):V.Ends Tryz.prog false 0 0 (lb 7 eE) (eQ r i n ts m ps) (ee r i n ts m ps) .ret (eQ true i n ts m ps) (ee true i n ts m ps):=by
 have G:=Ee bd r i n ts m ps
 unfold fe at h
 unfold js at I
 simp only [Int.toNat_natCast] at G
 rw [dT (show (i:Int) < (n:Int) by omega),dT (show (0:Int)≤(i:Int) by omega),h,I] at G
 exact EZ G
theorem WN (J:n≤9223372036854775807) (h:∀ j,j < n→fe ts j=true∧js ts j=false) (k:Nat):∀ i:Nat,n=i+k→aA Tryz.prog (lb 7 eE) (eQ r i n ts m ps) (ee r i n ts m ps) (.exit 0) (eQ r n n ts m ps) (ee r n n ts m ps):=by
 induction k with
 | zero=>
  intro i hi
  have:i=n:=by omega
  subst this
  refine .last (EZ ?_) (by intro h;cases h)
  rw [Ee,dF (show ¬ ((i:Nat):Int) < (i:Int) by omega)]
  rfl
 | succ k M=>
  intro i hi
  obtain ⟨G,I⟩:=h i (by omega)
  exact .more (KL i (by omega) J G I) (M (i+1) (by omega))
theorem WR (J:n≤9223372036854775807) (h:∀ j,j < n→fe ts j=true) (q:Nat) (G:q < n) (I:∀ j,j < q→js ts j=false) (hb:js ts q=true) (k:Nat):∀ i:Nat,q=i+k→aA Tryz.prog (lb 7 eE) (eQ r i n ts m ps) (ee r i n ts m ps) .ret (eQ true q n ts m ps) (ee true q n ts m ps):=by
 induction k with
 | zero=>
  intro i hi
  have:i=q:=by omega
  subst this
  exact .last (WO i G (h i G) hb) (by intro h;cases h)
 | succ k M=>
  intro i hi
  exact .more (KL i (by omega) J (h i (by omega)) (I i (by omega))) (M (i+1) (by omega))
end
def uB (r:Bool) (i:Int) (n:Nat) (ts:List Value) (m:Nat) (ps:List Value):Prop:=i=0∧n≤9223372036854775807∧∀ j,j < n→fe ts j=true∧js ts j=false
def Dp (r:Bool) (i:Int) (n:Nat) (ts:List Value) (m:Nat) (ps:List Value) (ρ:Int):Prop:=True
theorem Yg (r:Bool) (i:Int) (n:Nat) (ts:List Value) (m:Nat) (ps:List Value) (h:uB r i n ts m ps):∃ ρ:Int,aA Tryz.prog (lb 7 eE) (eQ r i n ts m ps) (ee r i n ts m ps) (.exit 0) (eQ r ρ n ts m ps) (ee r ρ n ts m ps)∧Dp r i n ts m ps ρ:=by
 obtain ⟨rfl,G,h⟩:=h
 exact ⟨_,WN G h _ 0 (Nat.zero_add _).symm,trivial⟩
def FW (M:Bool→Int→Nat→List Value→Nat→List Value→Bool) (J:Bool→Int→Nat→List Value→Nat→List Value→Int) (T:List AV) (H:Hp):Option (Bool×Ex×List AV×Hp):=
 match al T 1,al T 2,al T 3,H with
 | .ptr 0 0, .val (.bool r), .val (.int .i64 i), [.row (.cells [.lst false 27 n I, .lst false 35 m G]) 25 .live]=>bif T.length==38 then some (aw 3 n I&&aw 6 m G&&M r i n (ai 3 n I) m (ai 6 m G), .exit 0,eQ r ((J r i n (ai 3 n I) m (ai 6 m G))) n (ai 3 n I) m (ai 6 m G),ee r ((J r i n (ai 3 n I) m (ai 6 m G))) n (ai 3 n I) m (ai 6 m G)) else none
 | _,_,_,_=>none
abbrev H6:Type:=Bool→Int→Nat→List Value→Nat→List Value→Bool
abbrev Hy:Type:=Bool→Int→Nat→List Value→Nat→List Value→Int
def Be (G:H6) (I:Hy) (L:aD):aD:=bu 0 7 eE [1,2,3] (FW G I) L
def rD (r:Bool) (i:Int) (n:Nat) (ts:List Value) (m:Nat) (ps:List Value):Int:=Classical.epsilon fun ρ=>aA Tryz.prog (lb 7 eE) (eQ r i n ts m ps) (ee r i n ts m ps) (.exit 0) (eQ r (ρ) n ts m ps) (ee r (ρ) n ts m ps)∧Dp r i n ts m ps ρ
theorem ZR (r:Bool) (i:Int) (n:Nat) (ts:List Value) (m:Nat) (ps:List Value) (h:uB r i n ts m ps):aA Tryz.prog (lb 7 eE) (eQ r i n ts m ps) (ee r i n ts m ps) (.exit 0) (eQ r ((rD r i n ts m ps)) n ts m ps) (ee r ((rD r i n ts m ps)) n ts m ps)∧Dp r i n ts m ps (rD r i n ts m ps):=Classical.epsilon_spec (Yg r i n ts m ps h)
def xi (r:Bool) (i:Int) (n:Nat) (ts:List Value) (m:Nat) (ps:List Value):Bool:= @decide (uB r i n ts m ps) (Classical.propDecidable _)
theorem T6 (r:Bool) (i:Int) (n:Nat) (ts:List Value) (m:Nat) (ps:List Value) (h:uB r i n ts m ps):xi r i n ts m ps=true:= @decide_eq_true _ (Classical.propDecidable _) h
theorem adg (T:List AV) (H:Hp) (e:Ex) (J:List AV) (I:Hp) (h:FW xi rD T H=some (true,e,J,I)):V.Ends Tryz.prog false 0 0 (.loop (lb 7 eE)) T H e J I:=by
 unfold FW at h
 split at h
 ·rename_i r i n Z m U ab aE a1
  rw [Bool.cond_eq_ite] at h
  split at h
  ·rename_i M
   rw [beq_iff_eq] at M
   simp only [Option.some.injEq,Prod.mk.injEq,Bool.and_eq_true,decide_eq_true_eq] at h
   obtain ⟨⟨⟨k1,bx⟩,bD⟩,rfl,rfl,rfl⟩:=h
   have b0:= @of_decide_eq_true _ (Classical.propDecidable _) bD
   refine Ends.pre (Ends.iM (ZR r i n (ai 3 n Z) m (ai 6 m U) b0).1.ends (bL.cons ⟨⟨rfl,fun _ _ _ _ _ a6=>mV (by kernel_rfl) (by kernel_rfl) k1 bx a6⟩,rfl,rfl⟩ bL.nil)) (fun α B w D b1 a7=>bw M (fun p O y G=> ?_) a7)
   simp only [List.mem_cons,List.not_mem_nil,or_false] at O
   rcases O with rfl | rfl | rfl
   ·rw [ab] at G;exact G
   ·rw [aE] at G;exact G
   ·rw [a1] at G;exact G
  ·cases h
 ·cases h
theorem Qe {L:aD} (h:aC Tryz.prog L):aC Tryz.prog (Be xi rD L):=h.bC Rp adg
abbrev pq:List Bool:= [false,true,false,true]
def pL (r:Bool) (i:Int) (n:Nat) (ts:List Value) (m:Nat) (ps:List Value):List AV:=ao 38 [(1, .ptr 0 0),(2, .val (.bool r)),(3, .val (.int .i64 i))]
def oR (r:Bool) (i:Int) (n:Nat) (ts:List Value) (m:Nat) (ps:List Value):Hp:= [.row (.cells [.lst false 27 n (af 3 ts), .lst false 35 m (af 6 ps)]) 25 .live]
theorem Rq:aI Tryz.prog 7 pq=some (.loop (lb 7 pq)):=by kernel_rfl
def uC (r:Bool) (i:Int) (n:Nat) (ts:List Value) (m:Nat) (ps:List Value):Prop:=i=0∧n≤9223372036854775807∧(∀ j,j < n→fe ts j=true)∧∃ q,q < n∧(∀ j,j < q→js ts j=false)∧js ts q=true
def Dq (r:Bool) (i:Int) (n:Nat) (ts:List Value) (m:Nat) (ps:List Value) (ρ:Bool×Int):Prop:=ρ.1=true
theorem Yh (r:Bool) (i:Int) (n:Nat) (ts:List Value) (m:Nat) (ps:List Value) (h:uC r i n ts m ps):∃ ρ:Bool×Int,aA Tryz.prog (lb 7 pq) (pL r i n ts m ps) (oR r i n ts m ps) .ret (pL ρ.1 ρ.2 n ts m ps) (oR ρ.1 ρ.2 n ts m ps)∧Dq r i n ts m ps ρ:=by
 obtain ⟨rfl,I,h,q,J,G,hb⟩:=h
 exact ⟨(true,(q:Int)),WR I h q J G hb q 0 (by omega),rfl⟩
def FX (M:Bool→Int→Nat→List Value→Nat→List Value→Bool) (J:Bool→Int→Nat→List Value→Nat→List Value→Bool×Int) (T:List AV) (H:Hp):Option (Bool×Ex×List AV×Hp):=
 match al T 1,al T 2,al T 3,H with
 | .ptr 0 0, .val (.bool r), .val (.int .i64 i), [.row (.cells [.lst false 27 n I, .lst false 35 m G]) 25 .live]=>bif T.length==38 then some (aw 3 n I&&aw 6 m G&&M r i n (ai 3 n I) m (ai 6 m G), .ret,pL ((J r i n (ai 3 n I) m (ai 6 m G)).1) ((J r i n (ai 3 n I) m (ai 6 m G)).2) n (ai 3 n I) m (ai 6 m G),oR ((J r i n (ai 3 n I) m (ai 6 m G)).1) ((J r i n (ai 3 n I) m (ai 6 m G)).2) n (ai 3 n I) m (ai 6 m G)) else none
 | _,_,_,_=>none
abbrev H7:Type:=Bool→Int→Nat→List Value→Nat→List Value→Bool
abbrev Hz:Type:=Bool→Int→Nat→List Value→Nat→List Value→Bool×Int
def Bf (G:H7) (I:Hz) (L:aD):aD:=bu 0 7 pq [1,2,3] (FX G I) L
def mJ (r:Bool) (i:Int) (n:Nat) (ts:List Value) (m:Nat) (ps:List Value):Bool×Int:=Classical.epsilon fun ρ=>aA Tryz.prog (lb 7 pq) (pL r i n ts m ps) (oR r i n ts m ps) (.ret) (pL (ρ.1) (ρ.2) n ts m ps) (oR (ρ.1) (ρ.2) n ts m ps)∧Dq r i n ts m ps ρ
theorem Mx (r:Bool) (i:Int) (n:Nat) (ts:List Value) (m:Nat) (ps:List Value) (h:uC r i n ts m ps):aA Tryz.prog (lb 7 pq) (pL r i n ts m ps) (oR r i n ts m ps) (.ret) (pL ((mJ r i n ts m ps).1) ((mJ r i n ts m ps).2) n ts m ps) (oR ((mJ r i n ts m ps).1) ((mJ r i n ts m ps).2) n ts m ps)∧Dq r i n ts m ps (mJ r i n ts m ps):=Classical.epsilon_spec (Yh r i n ts m ps h)
def xj (r:Bool) (i:Int) (n:Nat) (ts:List Value) (m:Nat) (ps:List Value):Bool:= @decide (uC r i n ts m ps) (Classical.propDecidable _)
theorem T7 (r:Bool) (i:Int) (n:Nat) (ts:List Value) (m:Nat) (ps:List Value) (h:uC r i n ts m ps):xj r i n ts m ps=true:= @decide_eq_true _ (Classical.propDecidable _) h
theorem adh (T:List AV) (H:Hp) (e:Ex) (J:List AV) (I:Hp) (h:FX xj mJ T H=some (true,e,J,I)):V.Ends Tryz.prog false 0 0 (.loop (lb 7 pq)) T H e J I:=by
 unfold FX at h
 split at h
 ·rename_i r i n Z m U ab aE a1
  rw [Bool.cond_eq_ite] at h
  split at h
  ·rename_i M
   rw [beq_iff_eq] at M
   simp only [Option.some.injEq,Prod.mk.injEq,Bool.and_eq_true,decide_eq_true_eq] at h
   obtain ⟨⟨⟨k1,bx⟩,bD⟩,rfl,rfl,rfl⟩:=h
   have b0:= @of_decide_eq_true _ (Classical.propDecidable _) bD
   refine Ends.pre (Ends.iM (Mx r i n (ai 3 n Z) m (ai 6 m U) b0).1.ends (bL.cons ⟨⟨rfl,fun _ _ _ _ _ a6=>mV (by kernel_rfl) (by kernel_rfl) k1 bx a6⟩,rfl,rfl⟩ bL.nil)) (fun α B w D b1 a7=>bw M (fun p O y G=> ?_) a7)
   simp only [List.mem_cons,List.not_mem_nil,or_false] at O
   rcases O with rfl | rfl | rfl
   ·rw [ab] at G;exact G
   ·rw [aE] at G;exact G
   ·rw [a1] at G;exact G
  ·cases h
 ·cases h
theorem Qf {L:aD} (h:aC Tryz.prog L):aC Tryz.prog (Bf xj mJ L):=h.bC Rq adh
structure Gg where
 gt:Nat→List Value→Nat→List Value→Bool
 go:Nat→List Value→Nat→List Value→Bool
def kJ (n:Nat) (ts:List Value) (m:Nat) (ps:List Value):Bool:=(List.range n).any (js ts) ||(decide (10 < n)&&decide (n≤1000) ||decide (1005 < n)) ||oQ m ps
def cY:Gg where
 gt:=kJ
 go n ts m ps:=dA n ts&&dM m ps
def Fo (G:Gg):TF:=fun args=>match args with
 | [.agg [.lst _ 27 n f, .lst _ 35 m g]]=>some (aw 3 n f&&aw 6 m g&&G.go n (ai 3 n f) m (ai 6 m g), .val (.bool (G.gt n (ai 3 n f) m (ai 6 m g))))
 | _=>none
def sn (T:Tg):FuncId→TF:=au 36 (Fm T) aM
theorem WM (T:Tg) (G:H6) (I:Hy) (n:Nat) (ts:List Value) (m:Nat) (ps:List Value):aG Tryz.prog ⟨sn T,az,Be G I aq⟩ 10 10 7 [.agg [.lst false 27 n (af 3 ts), .lst false 35 m (af 6 ps)]]=
  (bif aw 3 n (af 3 ts)&&aw 6 m (af 6 ps)&&G false (0:Int) n (ai 3 n (af 3 ts)) m (ai 6 m (af 6 ps)) then (bif decide (10 < (↑n:Int)) then (bif decide ((↑n:Int)≤1000) then some (.val (.bool true)) else (bif decide (1005 < (↑n:Int)) then some (.val (.bool true)) else (bif aw 6 m (af 6 (ai 6 m (af 6 ps)))&&T.mD m (ai 6 m (af 6 (ai 6 m (af 6 ps)))) then some (.val (.bool (T.gp m (ai 6 m (af 6 (ai 6 m (af 6 ps))))))) else none))) else (bif decide (1005 < (↑n:Int)) then some (.val (.bool true)) else (bif aw 6 m (af 6 (ai 6 m (af 6 ps)))&&T.mD m (ai 6 m (af 6 (ai 6 m (af 6 ps)))) then some (.val (.bool (T.gp m (ai 6 m (af 6 (ai 6 m (af 6 ps))))))) else none))) else none):=by kernel_rfl
theorem WQ (T:Tg) (G:H7) (I:Hz) (n:Nat) (ts:List Value) (m:Nat) (ps:List Value):aG Tryz.prog ⟨sn T,az,Bf G I aq⟩ 10 10 7 [.agg [.lst false 27 n (af 3 ts), .lst false 35 m (af 6 ps)]]=
  (bif aw 3 n (af 3 ts)&&aw 6 m (af 6 ps)&&G false (0:Int) n (ai 3 n (af 3 ts)) m (ai 6 m (af 6 ps)) then some (.val (.bool ((I false (0:Int) n (ai 3 n (af 3 ts)) m (ai 6 m (af 6 ps))).fst))) else none):=by kernel_rfl
theorem GU:bf Tryz.prog (sn lV):=(aK _).add Vw
theorem JU:Entry Tryz.prog 7 (Fo cY):=by
 refine oL (by kernel_rfl) (fun args r h=> ?_)
 unfold Fo at h
 split at h
 ·rename_i fl n f a6 m g
  simp only [Option.some.injEq,Prod.mk.injEq,Bool.and_eq_true] at h
  obtain ⟨⟨⟨a7,bx⟩,G⟩,rfl⟩:=h
  have Z:cm [.agg [.lst fl 27 n f, .lst a6 35 m g]] [.agg [.lst false 27 n (af 3 (ai 3 n f)), .lst false 35 m (af 6 (ai 6 m g))]]:=
   cm.cons (cI.agg (cm.cons (cI.row (by kernel_rfl) a7) (cm.cons (cI.row (by kernel_rfl) bx) (cm.refl _)))) (cm.refl _)
  have l1:=dC 3 n f
  have l2:=dC 6 m g
  generalize ai 3 n f=ts at*
  generalize ai 6 m g=ps at*
  have G:(dA n ts&&dM m ps)=true:=G
  rw [Bool.and_eq_true] at G
  obtain ⟨k1,bD⟩:=G
  obtain ⟨aE,a1⟩:=LY k1
  by_cases I:(List.range n).any (js ts)=true
  ·have J:uC false 0 n ts m ps:= ⟨rfl,aE,a1,xO n I⟩
   refine ⟨⟨sn lV,az,Bf xj mJ aq⟩,10,10,_,_,GU,(Qf aC.none).ok, ?_,Z,cI.refl _⟩
   have e:cY.gt n ts m ps=true:=by show kJ n ts m ps=true;unfold kJ;rw [I];rfl
   rw [WQ,c9,c9,bj l1,bj l2,T7 _ _ _ _ _ _ J,e,show (mJ false 0 n ts m ps).fst=true from (Mx _ _ _ _ _ _ J).2];rfl
  ·have J:uB false 0 n ts m ps:= ⟨rfl,aE,fun j ab=> ⟨a1 j ab,none_lt I ab⟩⟩
   refine ⟨⟨sn lV,az,Be xi rD aq⟩,10,10,_,_,GU,(Qe aC.none).ok, ?_,Z,cI.refl _⟩
   have e:cY.gt n ts m ps=((decide (10 < n)&&decide (n≤1000) ||decide (1005 < n)) ||lV.gp m ps):=by show kJ n ts m ps=_;unfold kJ;rw [Bool.eq_false_iff.2 I];rfl
   rw [WM]
   simp only [c9,bj l1,bj l2,T6 _ _ _ _ _ _ J,e,show lV.mD m ps=true from bD,Bool.and_self,cond_true]
   by_cases M:1005 < n
   ·rw [decide_eq_true M,dT (show (1005:Int) < (n:Int) by omega),dT (show (10:Int) < (n:Int) by omega),dF (show ¬ (n:Int)≤1000 by omega),Bool.or_true];rfl
   ·rw [decide_eq_false M,dF (show ¬ (1005:Int) < (n:Int) by omega)]
    by_cases O:10 < n
    ·rw [decide_eq_true O,dT (show (10:Int) < (n:Int) by omega)]
     by_cases U:n≤1000
     ·rw [decide_eq_true U,dT (show (n:Int)≤1000 by omega)];rfl
     ·rw [decide_eq_false U,dF (show ¬ (n:Int)≤1000 by omega)];rfl
    ·rw [decide_eq_false O,dF (show ¬ (10:Int) < (n:Int) by omega)];rfl
 ·cases h
end
end Go.Proofs.YtamcpiicmfielaaGreat.L
namespace Go.Proofs.YtamcpiicmfielaaGreat.L
open Go Go.V Go.RowKit Go.Proofs.YtamcpiicmfielaaGreat.Sp
open Go.Proofs (Tryz.prog)
noncomputable section
def CB (f:TF):TF:=fun args=>match args with
 | a :: .agg [.val x, .val y, .val z] :: l=>oB (aL x y z) (f (a :: wM x y z :: l))
 | _=>none
theorem Wb {g:FuncId} {f:TF} (h:Entry Tryz.prog g f):Entry Tryz.prog g (CB f):=h.less fun args r G=>by
 unfold L.CB at G
 split at G
 ·obtain ⟨M,O⟩:=sF G
  obtain ⟨e1,I,J⟩:=fO M
  rw [e1,I,J];exact O
 ·cases G
section
variable {at8 : Int} {r : Bool} {n : Nat} {ts ps : List Value} {xb : Bool} {xn xd : BA}
structure IN (n:Nat) (ts ps:List Value):Prop where
 l1:ts.length=n*3
 l2:ps.length=n*6
 ko:bQ n ts n ps=true
 ck:bb n ts n ps=0
theorem IN.pl {n:Nat} {ts ps:List Value} (h:IN n ts ps):oz n ts n ps:=iL h.ko h.ck
theorem abV {n:Nat} {ts:List Value} (h:fm n ts) {i:Nat} (hi:i < n):bF ts (qt ts i) n=i:=by
 refine (rV (by omega) (fun k J=> ?_) (fun _=>Rat.lt_irrefl)).symm
 have G:=h.up k (by omega)
 have I:=h.le (show k+1≤i by omega) hi
 grind
theorem ZZ {n:Nat} {ts:List Value} (h:fm n ts) {i:Nat} (hi:i < n) (c:Nat→Rat):bG n ts c (qt ts i)=c i:=by
 unfold bG
 rw [abV h hi]
 by_cases G:i=0
 ·subst G;rw [if_pos rfl]
 ·rw [if_neg G,if_neg (show ¬ i=n by omega)]
  have I:=h.up (i - 1) (by omega)
  rw [show i - 1+1=i by omega] at I
  have J:qt ts i - qt ts (i - 1)≠0:=by grind
  rw [show (qt ts i - qt ts (i - 1)) / (qt ts i - qt ts (i - 1))=1 by grind]
  unfold kG
  grind
end
end
end Go.Proofs.YtamcpiicmfielaaGreat.L
namespace Go.Proofs.YtamcpiicmfielaaGreat.L
open Go Go.V Go.RowKit Go.Proofs.YtamcpiicmfielaaGreat.Sp
open Go.Proofs (Tryz.prog)
noncomputable section
theorem pE {m:Nat} (h:m≤2000):aQ Tryz.prog m 27=true:=by
 have e:Tryz.prog.bytesOf 27=40:=by kernel_rfl
 unfold aQ
 rw [e,decide_eq_true (show m*40≤140737488355328 by omega),decide_eq_true (show m≤9223372036854775807 by omega)];rfl
section
variable {er : Int} {n : Nat} {ts : List Value} {xb : Bool} {xn xd : BA} {pn : Nat} {cs : List Value}
end
section
variable {n : Nat} {ts : List Value} {m : Nat} {ps : List Value} {xb : Bool} {xn xd : BA} {pn : Nat} {pf : Nat → Nat → AV}
end
end
end Go.Proofs.YtamcpiicmfielaaGreat.L
namespace Go.Proofs.YtamcpiicmfielaaGreat.L
open Go Go.V Go.RowKit Go.Proofs.YtamcpiicmfielaaGreat.Sp
open Go.Proofs (Tryz.prog)
noncomputable section
theorem xT {n d:BA} (h:bd.gr n d=false):bd.ok n d=true:=by
 have h:(decide (12 < n.size) ||decide (12 < d.size))=false:=h
 rw [Bool.or_eq_false_iff,decide_eq_false_iff_not,decide_eq_false_iff_not] at h
 show (decide _&&decide _)=true
 rw [decide_eq_true (show n.size≤12 by omega),decide_eq_true (show d.size≤12 by omega)];rfl
theorem Zy {n d:BA} (h:bd.ok n d=true):cH n d=true:=by
 obtain ⟨G,I⟩:=pd h
 unfold cH
 rw [decide_eq_true (show n.size≤1000 by omega),decide_eq_true (show d.size≤1000 by omega)];rfl
theorem Zz {q:Rat} (h:bk q≤1000):cH (ad.qs q) (ad.qd q)=true:=by
 unfold bk at h
 have G:=Eu q
 have I:=Et q
 unfold cH
 rw [decide_eq_true (show (ad.qs q).size≤1000 by omega),decide_eq_true (show (ad.qd q).size≤1000 by omega)];rfl
theorem SI (q:Rat):ad.ck (ad.qn q) (ad.qs q) (ad.qd q)=0:=by
 show (bif (ad.qn q==ad.qn (ad.qv (ad.qn q) (ad.qs q) (ad.qd q)))&&aF (ad.qs q) (ad.qs (ad.qv (ad.qn q) (ad.qs q) (ad.qd q)))&&aF (ad.qd q) (ad.qd (ad.qv (ad.qn q) (ad.qs q) (ad.qd q))) then (0:Int) else 1)=0
 rw [dN,beq_self_eq_true,kA,kA];rfl
structure Small (n:Nat) (ts:List Value) (m:Nat) (ps:List Value):Prop where
 ko:bQ n ts m ps=true
 sz:∀ j,j < n→bk (qt ts j)≤12
 lim:n≤10∨1000 < n
 nx:n≤1005
theorem y6 {n:Nat} {ts:List Value} {m:Nat} {ps:List Value} (O:dA n ts=true) (U:dM m ps=true) (h:¬ kJ n ts m ps=true):Small n ts m ps:=by
 obtain ⟨a6,ab⟩:=LY O
 obtain ⟨a1,Z⟩:=L5 (show lV.mD m ps=true from U)
 unfold kJ at h
 rw [Bool.not_eq_true,Bool.or_eq_false_iff,Bool.or_eq_false_iff,Bool.or_eq_false_iff,Bool.and_eq_false_iff,decide_eq_false_iff_not,decide_eq_false_iff_not,decide_eq_false_iff_not] at h
 obtain ⟨⟨g1,g2,aE⟩,J⟩:=h
 unfold oQ at J
 rw [Bool.or_eq_false_iff] at J
 have M:∀ j,j < n→bd.ok (ag (ts.getD (j*3+1) undef)) (ag (ts.getD (j*3+2) undef))=true:=fun j G=>xT (none_lt (Bool.eq_false_iff.1 g1) G)
 refine ⟨?_,fun j G=>nP (M j G),by omega,by omega⟩
 unfold bQ
 rw [Bool.and_eq_true,List.all_eq_true,List.all_eq_true]
 refine ⟨fun j G=> ?_,fun j G=> ?_⟩
 ·rw [List.mem_range] at G
  unfold dc
  rw [ab j G,Zy (M j G)];rfl
 ·rw [List.mem_range] at G
  have I:=none_lt (Bool.eq_false_iff.1 J.1) G
  unfold kI at I
  rw [Bool.or_eq_false_iff] at I
  unfold c8
  rw [Z j G,xT I.1,xT I.2];rfl
section
variable {n : Nat} {ts : List Value}
theorem abU (h:fm n ts) {k:Nat} (M:k+1 < n) {x:Rat} (G:qt ts k < x) (I:x≤qt ts (k+1)):bF ts x n=k+1:=
 (rV (by omega) (fun j J=>by have:=h.le (show j≤k by omega) (by omega);grind) (fun _=>by grind)).symm
theorem ZY (h:fm n ts) {k:Nat} (J:k+1 < n) {x:Rat} (G:qt ts k < x) (I:x≤qt ts (k+1)) (c:Nat→Rat):bG n ts c x=kG (c k) (c (k+1)) ((x - qt ts k) / (qt ts (k+1) - qt ts k)):=by
 unfold bG
 rw [abU h J G I,if_neg (show ¬ k+1=0 by omega),if_neg (show ¬ k+1=n by omega),Nat.add_sub_cancel]
theorem Z0 (h:fm n ts) {k:Nat} (I:k+1 < n) {p:Rat} (U:0≤p) (J:p≤1) (c:Nat→Rat):bG n ts c (qt ts k+p*(qt ts (k+1) - qt ts k))=kG (c k) (c (k+1)) p:=by
 have aE:=h.up k I
 have G:0 < qt ts (k+1) - qt ts k:=by grind
 by_cases M:p=0
 ·subst M
  rw [show qt ts k+0*(qt ts (k+1) - qt ts k)=qt ts k by grind,ZZ h (by omega) c]
  unfold kG;grind
 ·have O:0 < p:=by grind
  have Z:=Rat.mul_pos O G
  have ab:p*(qt ts (k+1) - qt ts k)≤1*(qt ts (k+1) - qt ts k):=Rat.mul_le_mul_of_nonneg_right J (Rat.le_of_lt G)
  rw [ZY h I (by grind) (by grind) c]
  have:(qt ts k+p*(qt ts (k+1) - qt ts k) - qt ts k) / (qt ts (k+1) - qt ts k)=p:=by grind
  rw [this]
end
end
end Go.Proofs.YtamcpiicmfielaaGreat.L
namespace Go.Proofs.YtamcpiicmfielaaGreat.L
open Go Go.V Go.RowKit Go.Proofs.YtamcpiicmfielaaGreat.Sp
open Go.Proofs (Tryz.prog)
noncomputable section
structure Dg where
 dk:Nat→List Value→Nat→List Value→Bool→BA→BA→Bool
 dt:Nat→List Value→Rat→List Value
theorem UI (sz:Nat) (vs:List Value):dL (.vals vs) [] 0 sz=af sz vs:=by
 funext j q
 show AV.val (vs.getD (0+j*sz+q) undef)=_
 rw [Nat.zero_add];rfl
end
end Go.Proofs.YtamcpiicmfielaaGreat.L
namespace Go.Proofs.YtamcpiicmfielaaGreat.L
open Go Go.V Go.ChangeShapes Go.WideShapes Go.RowKit Go.Deep Go.Joins Go.Proofs.YtamcpiicmfielaaGreat.Sp
open Go.Proofs (Tryz.prog)
noncomputable section
section
variable {H : Type} {enc : TypeId × Value → H} {w w' : World}
theorem wN {t:TypeId} {v:Value} {d:DataW H} {ps:List MemPlace} (I:Tryz.prog.readableRec t=true) (J:t < Tryz.prog.types.size) (h:DataW.Trod enc Tryz.prog w 0 (fun _=>true) true t v d ps) (hb:Below w.heap.size w w'):
  DataW.Trod enc Tryz.prog w' 0 (fun b=>decide (b < w.heap.size)) true t v d ps:=
 Below.trod (by kernel_rfl) I J h hb (fun x M=>by obtain ⟨n,G⟩:=h;exact DataW.trod_lt n _ _ _ G x M)
theorem N9 {t e:TypeId} {a6:Nat} {v:Value} {x:DataW H×List MemPlace} (ch:Tryz.prog.underlying t=some (.slice e)) (bD:0 < Tryz.prog.cellsOf e) (h:DataW.trod enc Tryz.prog w 0 (fun _=>true) true a6 t [v]=some x):
  ∃ (n:Nat) (f:Nat→Nat→Value),n≤9223372036854775807∧(AV.lst false e n (fun j q=> .val (f j q))).Rel Tryz.prog cp (fun _=>False) w bc v∧∀ j,j < n→∃ m y,DataW.trod enc Tryz.prog w 0 (fun _=>true) true m e ((List.range (Tryz.prog.cellsOf e)).map (f j))=some y:=by
 rcases open_slice ch h with ⟨M,_⟩ | ⟨a,len,cap,m,n,D,Z,M,hb,a1,b4,b5,_,ct⟩
 ·cases M
  exact ⟨0,fun _ _=>undef,Nat.zero_le _, ⟨none,0,rfl,Nat.le_refl _,(fun h=>by cases h), .inl rfl⟩,fun j G=>by omega⟩
 ·cases M
  have c4:m=cap:=by rw [b5];rfl
  have c5:cap≤9223372036854775807:=b4
  by_cases b3:len=0
  ·subst b3
   exact ⟨0,fun _ _=>undef,Nat.zero_le _, ⟨some a,_,rfl,a1,(fun h=>by cases h), .inl rfl⟩,fun j G=>by omega⟩
  ·obtain ⟨cs,aE⟩:=choose_lt (α:=List Value) (p:=fun i l=>w.cells? 0 (a.add (i*Tryz.prog.cellsOf e)) (Tryz.prog.cellsOf e)=some l∧DataW.trod enc Tryz.prog w 0 (fun _=>true) true n e l=some (D i,Z i)) (n:=len) (fun i hi=>ct i (by omega))
   have O:∀ j,j < len→(cs j).length=Tryz.prog.cellsOf e∧∀ q,q < Tryz.prog.cellsOf e→w.cell? (a.add (j*Tryz.prog.cellsOf e+q))=some ((cs j).getD q undef):=fun j G=>by
    obtain ⟨_,a7,bx⟩:=World.cells?_some (aE j G).1
    refine ⟨a7,fun q b6=> ?_⟩
    have:=bx q b6
    rw [add_add] at this
    rw [this,List.getD_eq_getElem?_getD,List.getElem?_eq_getElem (show q < (cs j).length by omega)];rfl
   have I:=(O 0 (by omega)).2 0 bD
   have U:a.spot=none:=by
    have:a.add (0*Tryz.prog.cellsOf e+0)=a:=by rw [Nat.zero_mul];rfl
    rw [this] at I
    exact World.cell?_spot I
   obtain ⟨b,o,c0⟩:=a
   have U:c0=none:=U
   subst U
   have ab:∀ i,(⟨b,o,none⟩:Addr).add i= ⟨b,o+i,none⟩:=fun i=>by
    unfold Addr.add
    split
    ·rename_i h;subst h;rfl
    ·rfl
   rw [ab] at I
   have b1:∃ c ty fr,w.heap[b]? =some (.cells c ty fr):=by
    unfold World.cell? at I
    simp only at I
    split at I
    ·rename_i c ty fr J;exact ⟨c,ty,fr,J⟩
    ·cases I
   obtain ⟨c,ty,fr,J⟩:=b1
   have b0:∀ i y,w.cell? ⟨b,i,none⟩=some y→c[i]? =some y:=fun i y h=>by
    unfold World.cell? at h
    simp only [J] at h
    exact h
   have b7:(AV.lst false e len (fun j q=> .val ((cs j).getD q undef))).Rel Tryz.prog cp (fun _=>False) w bc (.slice (some ⟨b,o,none⟩) len cap):=by
    refine ⟨some ⟨b,o,none⟩,cap,rfl,a1,(fun h=>by cases h), .inr ⟨b,o,c,ty,fr,rfl,(fun h=>h),J,fun j k G b2=> ⟨(cs j).getD k undef, ?_,rfl⟩⟩⟩
    have:=(O j G).2 k b2
    rw [ab] at this
    rw [Nat.add_assoc]
    exact b0 _ _ this
   refine ⟨len,fun j q=>(cs j).getD q undef,by omega,b7,fun j G=> ⟨n,(D j,Z j), ?_⟩⟩
   have e1:(List.range (Tryz.prog.cellsOf e)).map (fun q=>(cs j).getD q undef)=cs j:=by
    have c3:=(O j G).1
    apply List.ext_getElem?
    intro i
    by_cases hi:i < Tryz.prog.cellsOf e
    ·rw [List.getElem?_map,List.getElem?_range hi,List.getElem?_eq_getElem (show i < (cs j).length by omega),Option.map_some,List.getD_eq_getElem?_getD,List.getElem?_eq_getElem (show i < (cs j).length by omega)];rfl
    ·rw [List.getElem?_eq_none (by simp;omega),List.getElem?_eq_none (by omega)]
   rw [e1]
   exact (aE j G).2
theorem BO {M:Nat} {a b c:Value} {x:DataW H×List MemPlace} (h:DataW.trod enc Tryz.prog w 0 (fun _=>true) true M 27 [a,b,c]=some x):aL a b c=true:=by
 obtain ⟨aE,a1,a6,n,_,_,G,I,J⟩:=trod_struct3 (Tryz.underlying27) h
 have e0:Tryz.prog.cellsOf 4=1:=by kernel_rfl
 have e1:Tryz.prog.cellsOf 9=1:=by kernel_rfl
 simp only [e0,e1] at G I J
 obtain ⟨U,q1,_⟩:=DataW.trod_bool (show Tryz.prog.underlying _=some .bool from by kernel_rfl) G
 obtain ⟨Z,q2,_⟩:=DataW.trod_string (show Tryz.prog.underlying _=some .string from by kernel_rfl) I
 obtain ⟨ab,O,_⟩:=DataW.trod_string (show Tryz.prog.underlying _=some .string from by kernel_rfl) J
 cases q1;cases q2;cases O
 rfl
theorem SG {J:Nat} {a b c d e f:Value} {x:DataW H×List MemPlace} (h:DataW.trod enc Tryz.prog w 0 (fun _=>true) true J 35 [a,b,c,d,e,f]=some x):aL a b c=true∧aL d e f=true:=by
 obtain ⟨M,O,n,_,_,G,I⟩:=trod_struct2 (Tryz.underlying35) h
 have e0:Tryz.prog.cellsOf 27=3:=by kernel_rfl
 simp only [e0] at G I
 exact ⟨BO G,BO I⟩
theorem mX {l:List Value} (n:Nat) (f:Nat→Nat→Value) {j q:Nat} (sz:Nat) (G:j < n) (I:q < sz):(ai sz n (fun j q=> .val (f j q))).getD (j*sz+q) undef=f j q:=by
 have h:=NN (sz:=sz) (m:=n) (f:=fun j q=> .val (f j q)) (List.all_eq_true.2 fun i _=>rfl) G I
 exact (AV.val.inj h).symm
theorem Q2 {M:Nat} {v:Value} {x:DataW H×List MemPlace} (h:DataW.trod enc Tryz.prog w 0 (fun _=>true) true M 23 [v]=some x):
  ∃ (n:Nat) (ps:List Value),ps.length=n*6∧dM n ps=true∧(AV.lst false 35 n (af 6 ps)).Rel Tryz.prog cp (fun _=>False) w bc v:=by
 have I:Tryz.prog.cellsOf 35=6:=by kernel_rfl
 obtain ⟨n,f,O,U,Z⟩:=N9 (e:=35) (by kernel_rfl) (by rw [I];decide) h
 refine ⟨n,ai 6 n (fun j q=> .val (f j q)),dC _ _ _, ?_,kV (by kernel_rfl) (List.all_eq_true.2 fun i _=>rfl) U⟩
 unfold dM
 rw [Bool.and_eq_true,decide_eq_true_eq,List.all_eq_true]
 refine ⟨O,fun j G=> ?_⟩
 rw [List.mem_range] at G
 obtain ⟨m,y,J⟩:=Z j G
 rw [I] at J
 obtain ⟨k1,ab⟩:=SG (show DataW.trod enc Tryz.prog w 0 (fun _=>true) true m 35 [f j 0,f j 1,f j 2,f j 3,f j 4,f j 5]=some y from J)
 unfold gV
 rw [mX (l:= []) n f 6 G (by decide),mX (l:= []) n f 6 G (by decide),mX (l:= []) n f 6 G (by decide),mX (l:= []) n f 6 G (by decide),mX (l:= []) n f 6 G (by decide),mX (l:= []) n f 6 G (by decide),k1,ab];rfl
theorem Q3 {M:Nat} {v:Value} {x:DataW H×List MemPlace} (h:DataW.trod enc Tryz.prog w 0 (fun _=>true) true M 22 [v]=some x):
  ∃ (n:Nat) (ts:List Value),ts.length=n*3∧dA n ts=true∧(AV.lst false 27 n (af 3 ts)).Rel Tryz.prog cp (fun _=>False) w bc v:=by
 have I:Tryz.prog.cellsOf 27=3:=by kernel_rfl
 obtain ⟨n,f,O,U,Z⟩:=N9 (e:=27) (by kernel_rfl) (by rw [I];decide) h
 refine ⟨n,ai 3 n (fun j q=> .val (f j q)),dC _ _ _, ?_,kV (by kernel_rfl) (List.all_eq_true.2 fun i _=>rfl) U⟩
 unfold dA
 rw [Bool.and_eq_true,decide_eq_true_eq,List.all_eq_true]
 refine ⟨O,fun j G=> ?_⟩
 rw [List.mem_range] at G
 obtain ⟨m,y,J⟩:=Z j G
 rw [I] at J
 have k1:=BO (show DataW.trod enc Tryz.prog w 0 (fun _=>true) true m 27 [f j 0,f j 1,f j 2]=some y from J)
 unfold fe
 rw [mX (l:= []) n f 3 G (by decide),mX (l:= []) n f 3 G (by decide),mX (l:= []) n f 3 G (by decide),k1]
theorem I0 {cs:Array Value} {d:DataW H} {p:List MemPlace} (h:DataW.Trod enc Tryz.prog w 0 (fun _=>true) true 25 (.agg cs) d p):
  ∃ (n:Nat) (ts:List Value) (m:Nat) (ps:List Value),ts.length=n*3∧dA n ts=true∧ps.length=m*6∧dM m ps=true∧(AV.agg [.lst false 27 n (af 3 ts), .lst false 35 m (af 6 ps)]).Rel Tryz.prog cp (fun _=>False) w bc (.agg cs):=by
 obtain ⟨k,I⟩:=h
 have I:DataW.trod enc Tryz.prog w 0 (fun _=>true) true k 25 cs.toList=some (d,p):=I
 obtain ⟨bx,bD,n,_,G,J,M⟩:=trod_struct2 (Tryz.underlying25) I
 have O:Tryz.prog.cellsOf 25=2:=by kernel_rfl
 have e0:Tryz.prog.cellsOf 22=1:=by kernel_rfl
 have e1:Tryz.prog.cellsOf 23=1:=by kernel_rfl
 rw [O] at G
 obtain ⟨l⟩:=cs
 have U:∃ a b,l= [a,b]:=by
  cases l with
  | nil=>cases G
  | cons a l=>cases l with
   | nil=>cases G
   | cons b l=>cases l with
    | nil=>exact ⟨a,b,rfl⟩
    | cons c l=>exact absurd G (by simp)
 obtain ⟨a,b,rfl⟩:=U
 simp only [e0,e1] at J M
 obtain ⟨ab,ts,q1,q2,aE⟩:=Q3 J
 obtain ⟨Z,ps,a1,a6,a7⟩:=Q2 M
 exact ⟨ab,ts,Z,ps,q1,q2,a1,a6,_,rfl,a,_,rfl,aE,b,_,rfl,a7,rfl⟩
end
end
end Go.Proofs.YtamcpiicmfielaaGreat.L
