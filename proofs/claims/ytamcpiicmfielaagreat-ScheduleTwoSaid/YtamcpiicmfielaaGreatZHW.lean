import Derived.Test.YtamcpiicmfielaaGreatZHZ
import Derived.Deep.Slices
import Derived.Carry
import Derived.ChangeOld
import Derived.Lib.SmallJoins
set_option linter.unusedVariables false
set_option linter.unusedSimpArgs false
namespace Go.Proofs.YtamcpiicmfielaaGreat.L
open Go Go.V Go.RowKit Go.Proofs.YtamcpiicmfielaaGreat.Sp
open Go.Proofs (Tryz.prog)
noncomputable section
theorem db {n:Nat} {ts:List Value} {m:Nat} {ps:List Value} (h:aS n ts m ps=0):n=m∧0 < n∧n≤1000∧∀ j,j < n→bJ ts ps j=0:=by
 unfold aS at h
 split at h
 ·cases h
 ·rename_i G
  split at h
  ·cases h
  ·split at h
   ·cases h
   ·exact ⟨Classical.not_not.1 G,by omega,by omega,CU h⟩
theorem lC {n:Nat} {ts:List Value} {m:Nat} {ps:List Value} (O:bj n ts m ps=true) (h:aS n ts m ps=0):tt n ts m ps:=by
 obtain ⟨rfl,J,M,I⟩:=db h
 obtain ⟨Z,U⟩:=pQ O
 refine ⟨rfl,J, ⟨M,Z,fun j G=> ?_⟩,U,fun j G=>(rj (I j G)).2.1⟩
 have:=(rj (I (j+1) G)).2.2 (by omega)
 rw [C2,Nat.add_sub_cancel] at this
 exact Classical.not_not.1 this
end
end Go.Proofs.YtamcpiicmfielaaGreat.L
namespace Go.Proofs.YtamcpiicmfielaaGreat.L
open Go Go.V Go.RowKit Go.Proofs.YtamcpiicmfielaaGreat.Sp
open Go.Proofs (Tryz.prog)
noncomputable section
def jM (ts:List Value) (j:Nat):Bool:=bR.gr (ah (ts.getD (j*3+1) undef)) (ah (ts.getD (j*3+2) undef))
abbrev eC:List Bool:= [false,true,false,true]
def eP (r:Bool) (i:Int) (n:Nat) (ts:List Value) (m:Nat) (ps:List Value):List AV:=ar 38 [(1, .ptr 0 0),(2, .val (.bool r)),(3, .val (.int .i64 i))]
def dY (r:Bool) (i:Int) (n:Nat) (ts:List Value) (m:Nat) (ps:List Value):Hp:= [.row (.cells [.lst false 27 n (ad 3 ts), .lst false 35 m (ad 6 ps)]) 25 .live]
theorem Tu:aH Tryz.prog 7 eC=some (.loop (lb 7 eC)):=by kernel_rfl
theorem Vd:aH Tryz.prog 7 (false :: eC)=some (lb 7 eC):=by kernel_rfl
theorem Fw (K:Hg) (r:Bool) (i:Int) (n:Nat) (ts:List Value) (m:Nat) (ps:List Value):aO Tryz.prog (wZ K) 7 [1,2,3] (lb 7 eC) (false :: eC) (eP r i n ts m ps) (dY r i n ts m ps)=
  (bif decide (i < (↑n:Int)) then (bif decide (0≤i)&&decide (i < (↑n:Int)) then (bif aY (ts.getD (i.toNat*3+0) undef) (ts.getD (i.toNat*3+1) undef) (ts.getD (i.toNat*3+2) undef)&&true then (bif K.gr (ah (ts.getD (i.toNat*3+1) undef)) (ah (ts.getD (i.toNat*3+2) undef)) then some (.ret,ar 38 [(1,(.ptr 0 0)),(2,(.val (.bool true))),(3,(.val (.int .i64 i)))], [(.row (.cells [(.lst false 27 n (ad 3 ts)),(.lst false 35 m (ad 6 ps))]) 25 .live)]) else (bif ai IntKind.i64 (i+1) then some (.normal,ar 38 [(1,(.ptr 0 0)),(2,(.val (.bool r))),(3,(.val (.int .i64 (i+1))))], [(.row (.cells [(.lst false 27 n (ad 3 ts)),(.lst false 35 m (ad 6 ps))]) 25 .live)]) else none)) else none) else none) else some ((.exit 0),ar 38 [(1,(.ptr 0 0)),(2,(.val (.bool r))),(3,(.val (.int .i64 i)))], [(.row (.cells [(.lst false 27 n (ad 3 ts)),(.lst false 35 m (ad 6 ps))]) 25 .live)])):=by kernel_rfl
theorem Gd {r:Bool} {i:Int} {n:Nat} {ts:List Value} {m:Nat} {ps:List Value} {e:Ex} {T:List AV} {H:Hp} (h:aO Tryz.prog (wZ bR) 7 [1,2,3] (lb 7 eC) (false :: eC) (eP r i n ts m ps) (dY r i n ts m ps)=some (e,T,H)):V.Ends Tryz.prog false 0 0 (lb 7 eC) (eP r i n ts m ps) (dY r i n ts m ps) e T H:=
 bF ((aJ _).add Lr.gR) aN mixed Vd h
section
variable {r : Bool} {n m : Nat} {ts ps : List Value}
theorem Mm (i:Nat) (hi:i < n) (J:n≤9223372036854775807) (h:dB ts i=true) (I:jM ts i=false):V.Ends Tryz.prog false 0 0 (lb 7 eC) (eP r i n ts m ps) (dY r i n ts m ps) .normal (eP r ((i+1:Nat):Int) n ts m ps) (dY r ((i+1:Nat):Int) n ts m ps):=by
 have G:=Fw bR r i n ts m ps
 unfold dB at h
 unfold jM at I
 simp only [Int.toNat_natCast] at G
 rw [dT (show (i:Int) < (n:Int) by omega),dT (show (0:Int)≤(i:Int) by omega),h,I,aM (z:=(i:Int)+1) (by omega)] at G
 exact Gd G
theorem Y6 (i:Nat) (hi:i < n) (h:dB ts i=true) (I:jM ts i=true):V.Ends Tryz.prog false 0 0 (lb 7 eC) (eP r i n ts m ps) (dY r i n ts m ps) .ret (eP true i n ts m ps) (dY true i n ts m ps):=by
 have G:=Fw bR r i n ts m ps
 unfold dB at h
 unfold jM at I
 simp only [Int.toNat_natCast] at G
 rw [dT (show (i:Int) < (n:Int) by omega),dT (show (0:Int)≤(i:Int) by omega),h,I] at G
 exact Gd G
theorem Y5 (J:n≤9223372036854775807) (h:∀ j,j < n→dB ts j=true∧jM ts j=false) (k:Nat):∀ i:Nat,n=i+k→av Tryz.prog (lb 7 eC) (eP r i n ts m ps) (dY r i n ts m ps) (.exit 0) (eP r n n ts m ps) (dY r n n ts m ps):=by
 induction k with
 | zero=>
  intro i hi
  have:i=n:=by omega
  subst this
  refine .last (Gd ?_) (by intro h;cases h)
  rw [Fw,dF (show ¬ ((i:Nat):Int) < (i:Int) by omega)]
  rfl
 | succ k M=>
  intro i hi
  obtain ⟨G,I⟩:=h i (by omega)
  exact .more (Mm i (by omega) J G I) (M (i+1) (by omega))
theorem Y8 (J:n≤9223372036854775807) (h:∀ j,j < n→dB ts j=true) (q:Nat) (G:q < n) (I:∀ j,j < q→jM ts j=false) (hb:jM ts q=true) (k:Nat):∀ i:Nat,q=i+k→av Tryz.prog (lb 7 eC) (eP r i n ts m ps) (dY r i n ts m ps) .ret (eP true q n ts m ps) (dY true q n ts m ps):=by
 induction k with
 | zero=>
  intro i hi
  have:i=q:=by omega
  subst this
  exact .last (Y6 i G (h i G) hb) (by intro h;cases h)
 | succ k M=>
  intro i hi
  exact .more (Mm i (by omega) J (h i (by omega)) (I i (by omega))) (M (i+1) (by omega))
end
def vd (r:Bool) (i:Int) (n:Nat) (ts:List Value) (m:Nat) (ps:List Value):Prop:=i=0∧n≤9223372036854775807∧∀ j,j < n→dB ts j=true∧jM ts j=false
def ED (r:Bool) (i:Int) (n:Nat) (ts:List Value) (m:Nat) (ps:List Value) (ρ:Int):Prop:=True
theorem aaz (r:Bool) (i:Int) (n:Nat) (ts:List Value) (m:Nat) (ps:List Value) (h:vd r i n ts m ps):∃ ρ:Int,av Tryz.prog (lb 7 eC) (eP r i n ts m ps) (dY r i n ts m ps) (.exit 0) (eP r ρ n ts m ps) (dY r ρ n ts m ps)∧ED r i n ts m ps ρ:=by
 obtain ⟨rfl,G,h⟩:=h
 exact ⟨_,Y5 G h _ 0 (Nat.zero_add _).symm,trivial⟩
def Hb (M:Bool→Int→Nat→List Value→Nat→List Value→Bool) (J:Bool→Int→Nat→List Value→Nat→List Value→Int) (T:List AV) (H:Hp):Option (Bool×Ex×List AV×Hp):=
 match al T 1,al T 2,al T 3,H with
 | .ptr 0 0, .val (.bool r), .val (.int .i64 i), [.row (.cells [.lst false 27 n I, .lst false 35 m G]) 25 .live]=>bif T.length==38 then some (an 3 n I&&an 6 m G&&M r i n (ag 3 n I) m (ag 6 m G), .exit 0,eP r ((J r i n (ag 3 n I) m (ag 6 m G))) n (ag 3 n I) m (ag 6 m G),dY r ((J r i n (ag 3 n I) m (ag 6 m G))) n (ag 3 n I) m (ag 6 m G)) else none
 | _,_,_,_=>none
abbrev JB:Type:=Bool→Int→Nat→List Value→Nat→List Value→Bool
abbrev I2:Type:=Bool→Int→Nat→List Value→Nat→List Value→Int
def B9 (G:JB) (I:I2) (L:aC):aC:=bp 0 7 eC [1,2,3] (Hb G I) L
def r8 (r:Bool) (i:Int) (n:Nat) (ts:List Value) (m:Nat) (ps:List Value):Int:=Classical.epsilon fun ρ=>av Tryz.prog (lb 7 eC) (eP r i n ts m ps) (dY r i n ts m ps) (.exit 0) (eP r (ρ) n ts m ps) (dY r (ρ) n ts m ps)∧ED r i n ts m ps ρ
theorem acn (r:Bool) (i:Int) (n:Nat) (ts:List Value) (m:Nat) (ps:List Value) (h:vd r i n ts m ps):av Tryz.prog (lb 7 eC) (eP r i n ts m ps) (dY r i n ts m ps) (.exit 0) (eP r ((r8 r i n ts m ps)) n ts m ps) (dY r ((r8 r i n ts m ps)) n ts m ps)∧ED r i n ts m ps (r8 r i n ts m ps):=Classical.epsilon_spec (aaz r i n ts m ps h)
def xU (r:Bool) (i:Int) (n:Nat) (ts:List Value) (m:Nat) (ps:List Value):Bool:= @decide (vd r i n ts m ps) (Classical.propDecidable _)
theorem V8 (r:Bool) (i:Int) (n:Nat) (ts:List Value) (m:Nat) (ps:List Value) (h:vd r i n ts m ps):xU r i n ts m ps=true:= @decide_eq_true _ (Classical.propDecidable _) h
theorem aga (T:List AV) (H:Hp) (e:Ex) (J:List AV) (I:Hp) (h:Hb xU r8 T H=some (true,e,J,I)):V.Ends Tryz.prog false 0 0 (.loop (lb 7 eC)) T H e J I:=by
 unfold Hb at h
 split at h
 ·rename_i r i n Z m U ab aE a1
  rw [Bool.cond_eq_ite] at h
  split at h
  ·rename_i M
   rw [beq_iff_eq] at M
   simp only [Option.some.injEq,Prod.mk.injEq,Bool.and_eq_true,decide_eq_true_eq] at h
   obtain ⟨⟨⟨k1,bx⟩,bD⟩,rfl,rfl,rfl⟩:=h
   have b0:= @of_decide_eq_true _ (Classical.propDecidable _) bD
   refine Ends.pre (Ends.gJ (acn r i n (ag 3 n Z) m (ag 6 m U) b0).1.ends (bC.cons ⟨⟨rfl,fun _ _ _ _ _ a6=>mo (by kernel_rfl) (by kernel_rfl) k1 bx a6⟩,rfl,rfl⟩ bC.nil)) (fun α B w D b1 a7=>bq M (fun p O y G=> ?_) a7)
   simp only [List.mem_cons,List.not_mem_nil,or_false] at O
   rcases O with rfl | rfl | rfl
   ·rw [ab] at G;exact G
   ·rw [aE] at G;exact G
   ·rw [a1] at G;exact G
  ·cases h
 ·cases h
theorem RY {L:aC} (h:aB Tryz.prog L):aB Tryz.prog (B9 xU r8 L):=h.bz Tu aga
abbrev qf:List Bool:= [false,true,false,true]
def qz (r:Bool) (i:Int) (n:Nat) (ts:List Value) (m:Nat) (ps:List Value):List AV:=ar 38 [(1, .ptr 0 0),(2, .val (.bool r)),(3, .val (.int .i64 i))]
def pH (r:Bool) (i:Int) (n:Nat) (ts:List Value) (m:Nat) (ps:List Value):Hp:= [.row (.cells [.lst false 27 n (ad 3 ts), .lst false 35 m (ad 6 ps)]) 25 .live]
theorem Tv:aH Tryz.prog 7 qf=some (.loop (lb 7 qf)):=by kernel_rfl
def vf (r:Bool) (i:Int) (n:Nat) (ts:List Value) (m:Nat) (ps:List Value):Prop:=i=0∧n≤9223372036854775807∧(∀ j,j < n→dB ts j=true)∧∃ q,q < n∧(∀ j,j < q→jM ts j=false)∧jM ts q=true
def EE (r:Bool) (i:Int) (n:Nat) (ts:List Value) (m:Nat) (ps:List Value) (ρ:Bool×Int):Prop:=ρ.1=true
theorem aaA (r:Bool) (i:Int) (n:Nat) (ts:List Value) (m:Nat) (ps:List Value) (h:vf r i n ts m ps):∃ ρ:Bool×Int,av Tryz.prog (lb 7 qf) (qz r i n ts m ps) (pH r i n ts m ps) .ret (qz ρ.1 ρ.2 n ts m ps) (pH ρ.1 ρ.2 n ts m ps)∧EE r i n ts m ps ρ:=by
 obtain ⟨rfl,I,h,q,J,G,hb⟩:=h
 exact ⟨(true,(q:Int)),Y8 I h q J G hb q 0 (by omega),rfl⟩
def Hc (M:Bool→Int→Nat→List Value→Nat→List Value→Bool) (J:Bool→Int→Nat→List Value→Nat→List Value→Bool×Int) (T:List AV) (H:Hp):Option (Bool×Ex×List AV×Hp):=
 match al T 1,al T 2,al T 3,H with
 | .ptr 0 0, .val (.bool r), .val (.int .i64 i), [.row (.cells [.lst false 27 n I, .lst false 35 m G]) 25 .live]=>bif T.length==38 then some (an 3 n I&&an 6 m G&&M r i n (ag 3 n I) m (ag 6 m G), .ret,qz ((J r i n (ag 3 n I) m (ag 6 m G)).1) ((J r i n (ag 3 n I) m (ag 6 m G)).2) n (ag 3 n I) m (ag 6 m G),pH ((J r i n (ag 3 n I) m (ag 6 m G)).1) ((J r i n (ag 3 n I) m (ag 6 m G)).2) n (ag 3 n I) m (ag 6 m G)) else none
 | _,_,_,_=>none
abbrev JC:Type:=Bool→Int→Nat→List Value→Nat→List Value→Bool
abbrev I3:Type:=Bool→Int→Nat→List Value→Nat→List Value→Bool×Int
def Ca (G:JC) (I:I3) (L:aC):aC:=bp 0 7 qf [1,2,3] (Hc G I) L
def nm (r:Bool) (i:Int) (n:Nat) (ts:List Value) (m:Nat) (ps:List Value):Bool×Int:=Classical.epsilon fun ρ=>av Tryz.prog (lb 7 qf) (qz r i n ts m ps) (pH r i n ts m ps) (.ret) (qz (ρ.1) (ρ.2) n ts m ps) (pH (ρ.1) (ρ.2) n ts m ps)∧EE r i n ts m ps ρ
theorem N9 (r:Bool) (i:Int) (n:Nat) (ts:List Value) (m:Nat) (ps:List Value) (h:vf r i n ts m ps):av Tryz.prog (lb 7 qf) (qz r i n ts m ps) (pH r i n ts m ps) (.ret) (qz ((nm r i n ts m ps).1) ((nm r i n ts m ps).2) n ts m ps) (pH ((nm r i n ts m ps).1) ((nm r i n ts m ps).2) n ts m ps)∧EE r i n ts m ps (nm r i n ts m ps):=Classical.epsilon_spec (aaA r i n ts m ps h)
def xV (r:Bool) (i:Int) (n:Nat) (ts:List Value) (m:Nat) (ps:List Value):Bool:= @decide (vf r i n ts m ps) (Classical.propDecidable _)
theorem V9 (r:Bool) (i:Int) (n:Nat) (ts:List Value) (m:Nat) (ps:List Value) (h:vf r i n ts m ps):xV r i n ts m ps=true:= @decide_eq_true _ (Classical.propDecidable _) h
theorem agb (T:List AV) (H:Hp) (e:Ex) (J:List AV) (I:Hp) (h:Hc xV nm T H=some (true,e,J,I)):V.Ends Tryz.prog false 0 0 (.loop (lb 7 qf)) T H e J I:=by
 unfold Hc at h
 split at h
 ·rename_i r i n Z m U ab aE a1
  rw [Bool.cond_eq_ite] at h
  split at h
  ·rename_i M
   rw [beq_iff_eq] at M
   simp only [Option.some.injEq,Prod.mk.injEq,Bool.and_eq_true,decide_eq_true_eq] at h
   obtain ⟨⟨⟨k1,bx⟩,bD⟩,rfl,rfl,rfl⟩:=h
   have b0:= @of_decide_eq_true _ (Classical.propDecidable _) bD
   refine Ends.pre (Ends.gJ (N9 r i n (ag 3 n Z) m (ag 6 m U) b0).1.ends (bC.cons ⟨⟨rfl,fun _ _ _ _ _ a6=>mo (by kernel_rfl) (by kernel_rfl) k1 bx a6⟩,rfl,rfl⟩ bC.nil)) (fun α B w D b1 a7=>bq M (fun p O y G=> ?_) a7)
   simp only [List.mem_cons,List.not_mem_nil,or_false] at O
   rcases O with rfl | rfl | rfl
   ·rw [ab] at G;exact G
   ·rw [aE] at G;exact G
   ·rw [a1] at G;exact G
  ·cases h
 ·cases h
theorem RZ {L:aC} (h:aB Tryz.prog L):aB Tryz.prog (Ca xV nm L):=h.bz Tv agb
structure Gg where
 gt:Nat→List Value→Nat→List Value→Bool
 go:Nat→List Value→Nat→List Value→Bool
def mS (n:Nat) (ts:List Value) (m:Nat) (ps:List Value):Bool:=(List.range n).any (jM ts) ||(decide (10 < n)&&decide (n≤1000) ||decide (1005 < n)) ||pG m ps
def ft:Gg where
 gt:=mS
 go n ts m ps:=ef n ts&&dp m ps
def GA (G:Gg):TF:=fun args=>match args with
 | [.agg [.lst _ 27 n f, .lst _ 35 m g]]=>some (an 3 n f&&an 6 m g&&G.go n (ag 3 n f) m (ag 6 m g), .val (.bool (G.gt n (ag 3 n f) m (ag 6 m g))))
 | _=>none
def td (T:Tg):FuncId→TF:=aw 36 (Gz T) aK
theorem Y4 (T:Tg) (G:JB) (I:I2) (n:Nat) (ts:List Value) (m:Nat) (ps:List Value):aF Tryz.prog ⟨td T,au,B9 G I aq⟩ 10 10 7 [.agg [.lst false 27 n (ad 3 ts), .lst false 35 m (ad 6 ps)]]=
  (bif an 3 n (ad 3 ts)&&an 6 m (ad 6 ps)&&G false (0:Int) n (ag 3 n (ad 3 ts)) m (ag 6 m (ad 6 ps)) then (bif decide (10 < (↑n:Int)) then (bif decide ((↑n:Int)≤1000) then some (.val (.bool true)) else (bif decide (1005 < (↑n:Int)) then some (.val (.bool true)) else (bif an 6 m (ad 6 (ag 6 m (ad 6 ps)))&&T.ly m (ag 6 m (ad 6 (ag 6 m (ad 6 ps)))) then some (.val (.bool (T.gp m (ag 6 m (ad 6 (ag 6 m (ad 6 ps))))))) else none))) else (bif decide (1005 < (↑n:Int)) then some (.val (.bool true)) else (bif an 6 m (ad 6 (ag 6 m (ad 6 ps)))&&T.ly m (ag 6 m (ad 6 (ag 6 m (ad 6 ps)))) then some (.val (.bool (T.gp m (ag 6 m (ad 6 (ag 6 m (ad 6 ps))))))) else none))) else none):=by kernel_rfl
theorem Y7 (T:Tg) (G:JC) (I:I3) (n:Nat) (ts:List Value) (m:Nat) (ps:List Value):aF Tryz.prog ⟨td T,au,Ca G I aq⟩ 10 10 7 [.agg [.lst false 27 n (ad 3 ts), .lst false 35 m (ad 6 ps)]]=
  (bif an 3 n (ad 3 ts)&&an 6 m (ad 6 ps)&&G false (0:Int) n (ag 3 n (ad 3 ts)) m (ag 6 m (ad 6 ps)) then some (.val (.bool ((I false (0:Int) n (ag 3 n (ad 3 ts)) m (ag 6 m (ad 6 ps))).fst))) else none):=by kernel_rfl
theorem Im:bf Tryz.prog (td kX):=(aJ _).add XF
theorem XG:Entry Tryz.prog 7 (GA ft):=by
 refine gV (by kernel_rfl) (fun args r h=> ?_)
 unfold GA at h
 split at h
 ·rename_i fl n f a6 m g
  simp only [Option.some.injEq,Prod.mk.injEq,Bool.and_eq_true] at h
  obtain ⟨⟨⟨a7,bx⟩,G⟩,rfl⟩:=h
  have Z:bc [.agg [.lst fl 27 n f, .lst a6 35 m g]] [.agg [.lst false 27 n (ad 3 (ag 3 n f)), .lst false 35 m (ad 6 (ag 6 m g))]]:=
   bc.cons (bE.agg (bc.cons (bE.row (by kernel_rfl) a7) (bc.cons (bE.row (by kernel_rfl) bx) (bc.refl _)))) (bc.refl _)
  have l1:=bI 3 n f
  have l2:=bI 6 m g
  generalize ag 3 n f=ts at*
  generalize ag 6 m g=ps at*
  have G:(ef n ts&&dp m ps)=true:=G
  rw [Bool.and_eq_true] at G
  obtain ⟨k1,bD⟩:=G
  obtain ⟨aE,a1⟩:=Ei k1
  by_cases I:(List.range n).any (jM ts)=true
  ·have J:vf false 0 n ts m ps:= ⟨rfl,aE,a1,yz n I⟩
   refine ⟨⟨td kX,au,Ca xV nm aq⟩,10,10,_,_,Im,(RZ aB.none).ok, ?_,Z,bE.refl _⟩
   have e:ft.gt n ts m ps=true:=by show mS n ts m ps=true;unfold mS;rw [I];rfl
   rw [Y7,bV,bV,aZ l1,aZ l2,V9 _ _ _ _ _ _ J,e,show (nm false 0 n ts m ps).fst=true from (N9 _ _ _ _ _ _ J).2];rfl
  ·have J:vd false 0 n ts m ps:= ⟨rfl,aE,fun j ab=> ⟨a1 j ab,none_lt I ab⟩⟩
   refine ⟨⟨td kX,au,B9 xU r8 aq⟩,10,10,_,_,Im,(RY aB.none).ok, ?_,Z,bE.refl _⟩
   have e:ft.gt n ts m ps=((decide (10 < n)&&decide (n≤1000) ||decide (1005 < n)) ||kX.gp m ps):=by show mS n ts m ps=_;unfold mS;rw [Bool.eq_false_iff.2 I];rfl
   rw [Y4]
   simp only [bV,aZ l1,aZ l2,V8 _ _ _ _ _ _ J,e,show kX.ly m ps=true from bD,Bool.and_self,cond_true]
   by_cases M:1005 < n
   ·rw [decide_eq_true M,dT (show (1005:Int) < (n:Int) by omega),dT (show (10:Int) < (n:Int) by omega),dF (show ¬ (n:Int)≤1000 by omega),Bool.or_true];rfl
   ·rw [decide_eq_false M,dF (show ¬ (1005:Int) < (n:Int) by omega)]
    by_cases O:10 < n
    ·rw [decide_eq_true O,dT (show (10:Int) < (n:Int) by omega)]
     by_cases U:n≤1000
     ·rw [decide_eq_true U,dT (show (n:Int)≤1000 by omega)];rfl
     ·rw [decide_eq_false U,dF (show ¬ (n:Int)≤1000 by omega)];rfl
    ·rw [decide_eq_false O,dF (show ¬ (10:Int) < (n:Int) by omega)];rfl
 ·cases h
end
end Go.Proofs.YtamcpiicmfielaaGreat.L
namespace Go.Proofs.YtamcpiicmfielaaGreat.L
open Go Go.V Go.RowKit Go.Proofs.YtamcpiicmfielaaGreat.Sp
open Go.Proofs (Tryz.prog)
noncomputable section
section
variable {at8 : Int} {r : Bool} {n : Nat} {ts ps : List Value} {xb : Bool} {xn xd : BA}
structure Kl (n:Nat) (ts ps:List Value):Prop where
 l1:ts.length=n*3
 l2:ps.length=n*6
 ko:bj n ts n ps=true
 ck:aS n ts n ps=0
theorem Kl.pl {n:Nat} {ts ps:List Value} (h:Kl n ts ps):tt n ts n ps:=lC h.ko h.ck
end
end
end Go.Proofs.YtamcpiicmfielaaGreat.L
namespace Go.Proofs.YtamcpiicmfielaaGreat.L
open Go Go.V Go.RowKit Go.Proofs.YtamcpiicmfielaaGreat.Sp
open Go.Proofs (Tryz.prog)
noncomputable section
theorem fL {m:Nat} (h:m≤2000):aU Tryz.prog m 27=true:=by
 have e:Tryz.prog.bytesOf 27=40:=by kernel_rfl
 unfold aU
 rw [e,decide_eq_true (show m*40≤140737488355328 by omega),decide_eq_true (show m≤9223372036854775807 by omega)];rfl
section
variable {er : Int} {n : Nat} {ts : List Value} {xb : Bool} {xn xd : BA} {pn : Nat} {cs : List Value}
end
section
variable {n : Nat} {ts : List Value} {m : Nat} {ps : List Value} {xb : Bool} {xn xd : BA} {pn : Nat} {pf : Nat → Nat → AV}
end
end
end Go.Proofs.YtamcpiicmfielaaGreat.L
namespace Go.Proofs.YtamcpiicmfielaaGreat.L
open Go Go.V Go.RowKit Go.Proofs.YtamcpiicmfielaaGreat.Sp
open Go.Proofs (Tryz.prog)
noncomputable section
theorem DD {n d:BA} (h:bR.gr n d=false):bR.ok n d=true:=by
 have h:(decide (12 < n.size) ||decide (12 < d.size))=false:=h
 rw [Bool.or_eq_false_iff,decide_eq_false_iff_not,decide_eq_false_iff_not] at h
 show (decide _&&decide _)=true
 rw [decide_eq_true (show n.size≤12 by omega),decide_eq_true (show d.size≤12 by omega)];rfl
theorem ab4 {n d:BA} (h:bR.ok n d=true):c9 n d=true:=by
 obtain ⟨G,I⟩:=rU h
 unfold c9
 rw [decide_eq_true (show n.size≤1000 by omega),decide_eq_true (show d.size≤1000 by omega)];rfl
theorem ab5 {q:Rat} (h:cK q≤1000):c9 (af.qs q) (af.qd q)=true:=by
 unfold cK at h
 have G:=FM q
 have I:=FL q
 unfold c9
 rw [decide_eq_true (show (af.qs q).size≤1000 by omega),decide_eq_true (show (af.qd q).size≤1000 by omega)];rfl
structure Small (n:Nat) (ts:List Value) (m:Nat) (ps:List Value):Prop where
 ko:bj n ts m ps=true
 sz:∀ j,j < n→cK (qt ts j)≤12
 lim:n≤10∨1000 < n
 nx:n≤1005
theorem PW {n:Nat} {ts:List Value} {m:Nat} {ps:List Value} (U:ef n ts=true) (Z:dp m ps=true) (h:¬ mS n ts m ps=true):Small n ts m ps:=by
 obtain ⟨bx,aE⟩:=Ei U
 obtain ⟨a7,ab⟩:=zi (show kX.ly m ps=true from Z)
 unfold mS at h
 rw [Bool.not_eq_true,Bool.or_eq_false_iff,Bool.or_eq_false_iff,Bool.or_eq_false_iff,Bool.and_eq_false_iff,decide_eq_false_iff_not,decide_eq_false_iff_not,decide_eq_false_iff_not] at h
 obtain ⟨⟨O,a1,a6⟩,J⟩:=h
 unfold pG at J
 rw [Bool.or_eq_false_iff] at J
 have M:∀ j,j < n→bR.ok (ah (ts.getD (j*3+1) undef)) (ah (ts.getD (j*3+2) undef))=true:=fun j G=>DD (none_lt (Bool.eq_false_iff.1 O) G)
 refine ⟨?_,fun j G=>abW (M j G),by omega,by omega⟩
 unfold bj
 rw [Bool.and_eq_true,List.all_eq_true,List.all_eq_true]
 refine ⟨fun j G=> ?_,fun j G=> ?_⟩
 ·rw [List.mem_range] at G
  unfold c8
  rw [aE j G,ab4 (M j G)];rfl
 ·rw [List.mem_range] at G
  have I:=none_lt (Bool.eq_false_iff.1 J.1) G
  unfold lj at I
  rw [Bool.or_eq_false_iff] at I
  unfold dd
  rw [ab j G,DD I.1,DD I.2];rfl
section
variable {n : Nat} {ts : List Value}
end
end
end Go.Proofs.YtamcpiicmfielaaGreat.L
namespace Go.Proofs.YtamcpiicmfielaaGreat.L
open Go Go.V Go.RowKit Go.Proofs.YtamcpiicmfielaaGreat.Sp
open Go.Proofs (Tryz.prog)
noncomputable section
section
variable {n0 : Nat} {f0 : Nat → Nat → AV} {m0 : Nat} {g0 : Nat → Nat → AV} {zb : Bool} {zn zd : BA} {n : Nat} {ts ps : List Value}
end
end
end Go.Proofs.YtamcpiicmfielaaGreat.L
namespace Go.Proofs.YtamcpiicmfielaaGreat.L
open Go Go.V Go.RowKit Go.Proofs.YtamcpiicmfielaaGreat.Sp
open Go.Proofs (Tryz.prog)
noncomputable section
structure Pg where
 sv:Nat→List Value→Nat→List Value→Rat
 se:Nat→List Value→Nat→List Value→Int
end
end Go.Proofs.YtamcpiicmfielaaGreat.L
namespace Go.Proofs.YtamcpiicmfielaaGreat.L
open Go Go.V Go.RowKit Go.Proofs.YtamcpiicmfielaaGreat.Sp
open Go.Proofs (Tryz.prog)
noncomputable section
structure Dg where
 dk:Nat→List Value→Nat→List Value→Bool→BA→BA→Bool
 dt:Nat→List Value→Rat→List Value
theorem oe (sz:Nat) (vs:List Value):cC (.vals vs) [] 0 sz=ad sz vs:=by
 funext j q
 show AV.val (vs.getD (0+j*sz+q) undef)=_
 rw [Nat.zero_add];rfl
theorem oM {m:Nat} (h:m≤2000):aU Tryz.prog m 35=true:=by
 have e:Tryz.prog.bytesOf 35=80:=by kernel_rfl
 unfold aU
 rw [e,decide_eq_true (show m*80≤140737488355328 by omega),decide_eq_true (show m≤9223372036854775807 by omega)];rfl
theorem xm {n:Nat} {ps:List Value} (a6:ps.length=n*6) (h:∀ j,j < n→dd ps j=true):(ao.vals ps).bk=true:=by
 show ps.all (·.oneCell')=true
 rw [List.all_eq_true]
 intro v aE
 obtain ⟨i,hi,rfl⟩:=List.getElem_of_mem aE
 have ab:i / 6 < n:=by omega
 obtain ⟨⟨k1,a1⟩,_,_⟩:=nb (h _ ab)
 obtain ⟨I,J,M⟩:=j6 k1
 obtain ⟨O,U,Z⟩:=j6 a1
 have e:ps[i]=ps.getD (i / 6*6+i % 6) undef:=by
  rw [Nat.div_add_mod',List.getD_eq_getElem?_getD,List.getElem?_eq_getElem hi];rfl
 rw [e]
 have G:i % 6=0∨i % 6=1∨i % 6=2∨i % 6=3∨i % 6=4∨i % 6=5:=by omega
 rcases G with G | G | G | G | G | G <;> rw [G]
 ·rw [I];rfl
 ·rw [J];rfl
 ·rw [M];rfl
 ·rw [O];rfl
 ·rw [U];rfl
 ·rw [Z];rfl
end
end Go.Proofs.YtamcpiicmfielaaGreat.L
namespace Go.Proofs.YtamcpiicmfielaaGreat.L
open Go Go.V Go.ChangeShapes Go.WideShapes Go.RowKit Go.Deep Go.Joins Go.Proofs.YtamcpiicmfielaaGreat.Sp
open Go.Proofs (Tryz.prog)
noncomputable section
section
variable {H : Type} {enc : TypeId × Value → H} {w w' : World}
theorem KB {t:TypeId} {v:Value} {d:DataW H} {ps:List MemPlace} (I:Tryz.prog.readableRec t=true) (J:t < Tryz.prog.types.size) (h:DataW.Trod enc Tryz.prog w 0 (fun _=>true) true t v d ps) (hb:Below w.heap.size w w'):
  DataW.Trod enc Tryz.prog w' 0 (fun b=>decide (b < w.heap.size)) true t v d ps:=
 Below.trod (by kernel_rfl) I J h hb (fun x M=>by obtain ⟨n,G⟩:=h;exact DataW.trod_lt n _ _ _ G x M)
theorem PU {t e:TypeId} {a6:Nat} {v:Value} {x:DataW H×List MemPlace} (ch:Tryz.prog.underlying t=some (.slice e)) (bD:0 < Tryz.prog.cellsOf e) (h:DataW.trod enc Tryz.prog w 0 (fun _=>true) true a6 t [v]=some x):
  ∃ (n:Nat) (f:Nat→Nat→Value),n≤9223372036854775807∧(AV.lst false e n (fun j q=> .val (f j q))).Rel Tryz.prog cw (fun _=>False) w bo v∧∀ j,j < n→∃ m y,DataW.trod enc Tryz.prog w 0 (fun _=>true) true m e ((List.range (Tryz.prog.cellsOf e)).map (f j))=some y:=by
 rcases open_slice ch h with ⟨M,_⟩ | ⟨a,len,cap,m,n,D,Z,M,hb,a1,b4,b5,_,ct⟩
 ·cases M
  exact ⟨0,fun _ _=>undef,Nat.zero_le _, ⟨none,0,rfl,Nat.le_refl _,(fun h=>by cases h), .inl rfl⟩,fun j G=>by omega⟩
 ·cases M
  have c4:m=cap:=by rw [b5];rfl
  have c5:cap≤9223372036854775807:=b4
  by_cases b3:len=0
  ·subst b3
   exact ⟨0,fun _ _=>undef,Nat.zero_le _, ⟨some a,_,rfl,a1,(fun h=>by cases h), .inl rfl⟩,fun j G=>by omega⟩
  ·obtain ⟨cs,aE⟩:=choose_lt (α:=List Value) (p:=fun i l=>w.cells? 0 (a.add (i*Tryz.prog.cellsOf e)) (Tryz.prog.cellsOf e)=some l∧DataW.trod enc Tryz.prog w 0 (fun _=>true) true n e l=some (D i,Z i)) (n:=len) (fun i hi=>ct i (by omega))
   have O:∀ j,j < len→(cs j).length=Tryz.prog.cellsOf e∧∀ q,q < Tryz.prog.cellsOf e→w.cell? (a.add (j*Tryz.prog.cellsOf e+q))=some ((cs j).getD q undef):=fun j G=>by
    obtain ⟨_,a7,bx⟩:=World.cells?_some (aE j G).1
    refine ⟨a7,fun q b6=> ?_⟩
    have:=bx q b6
    rw [add_add] at this
    rw [this,List.getD_eq_getElem?_getD,List.getElem?_eq_getElem (show q < (cs j).length by omega)];rfl
   have I:=(O 0 (by omega)).2 0 bD
   have U:a.spot=none:=by
    have:a.add (0*Tryz.prog.cellsOf e+0)=a:=by rw [Nat.zero_mul];rfl
    rw [this] at I
    exact World.cell?_spot I
   obtain ⟨b,o,c0⟩:=a
   have U:c0=none:=U
   subst U
   have ab:∀ i,(⟨b,o,none⟩:Addr).add i= ⟨b,o+i,none⟩:=fun i=>by
    unfold Addr.add
    split
    ·rename_i h;subst h;rfl
    ·rfl
   rw [ab] at I
   have b1:∃ c ty fr,w.heap[b]? =some (.cells c ty fr):=by
    unfold World.cell? at I
    simp only at I
    split at I
    ·rename_i c ty fr J;exact ⟨c,ty,fr,J⟩
    ·cases I
   obtain ⟨c,ty,fr,J⟩:=b1
   have b0:∀ i y,w.cell? ⟨b,i,none⟩=some y→c[i]? =some y:=fun i y h=>by
    unfold World.cell? at h
    simp only [J] at h
    exact h
   have b7:(AV.lst false e len (fun j q=> .val ((cs j).getD q undef))).Rel Tryz.prog cw (fun _=>False) w bo (.slice (some ⟨b,o,none⟩) len cap):=by
    refine ⟨some ⟨b,o,none⟩,cap,rfl,a1,(fun h=>by cases h), .inr ⟨b,o,c,ty,fr,rfl,(fun h=>h),J,fun j k G b2=> ⟨(cs j).getD k undef, ?_,rfl⟩⟩⟩
    have:=(O j G).2 k b2
    rw [ab] at this
    rw [Nat.add_assoc]
    exact b0 _ _ this
   refine ⟨len,fun j q=>(cs j).getD q undef,by omega,b7,fun j G=> ⟨n,(D j,Z j), ?_⟩⟩
   have e1:(List.range (Tryz.prog.cellsOf e)).map (fun q=>(cs j).getD q undef)=cs j:=by
    have c3:=(O j G).1
    apply List.ext_getElem?
    intro i
    by_cases hi:i < Tryz.prog.cellsOf e
    ·rw [List.getElem?_map,List.getElem?_range hi,List.getElem?_eq_getElem (show i < (cs j).length by omega),Option.map_some,List.getD_eq_getElem?_getD,List.getElem?_eq_getElem (show i < (cs j).length by omega)];rfl
    ·rw [List.getElem?_eq_none (by simp;omega),List.getElem?_eq_none (by omega)]
   rw [e1]
   exact (aE j G).2
theorem CP {M:Nat} {a b c:Value} {x:DataW H×List MemPlace} (h:DataW.trod enc Tryz.prog w 0 (fun _=>true) true M 27 [a,b,c]=some x):aY a b c=true:=by
 obtain ⟨aE,a1,a6,n,_,_,G,I,J⟩:=trod_struct3 (Tryz.underlying27) h
 have e0:Tryz.prog.cellsOf 4=1:=by kernel_rfl
 have e1:Tryz.prog.cellsOf 9=1:=by kernel_rfl
 simp only [e0,e1] at G I J
 obtain ⟨U,q1,_⟩:=DataW.trod_bool (show Tryz.prog.underlying _=some .bool from by kernel_rfl) G
 obtain ⟨Z,q2,_⟩:=DataW.trod_string (show Tryz.prog.underlying _=some .string from by kernel_rfl) I
 obtain ⟨ab,O,_⟩:=DataW.trod_string (show Tryz.prog.underlying _=some .string from by kernel_rfl) J
 cases q1;cases q2;cases O
 rfl
theorem UN {J:Nat} {a b c d e f:Value} {x:DataW H×List MemPlace} (h:DataW.trod enc Tryz.prog w 0 (fun _=>true) true J 35 [a,b,c,d,e,f]=some x):aY a b c=true∧aY d e f=true:=by
 obtain ⟨M,O,n,_,_,G,I⟩:=trod_struct2 (Tryz.underlying35) h
 have e0:Tryz.prog.cellsOf 27=3:=by kernel_rfl
 simp only [e0] at G I
 exact ⟨CP G,CP I⟩
theorem nD {l:List Value} (n:Nat) (f:Nat→Nat→Value) {j q:Nat} (sz:Nat) (G:j < n) (I:q < sz):(ag sz n (fun j q=> .val (f j q))).getD (j*sz+q) undef=f j q:=by
 have h:=Py (sz:=sz) (m:=n) (f:=fun j q=> .val (f j q)) (List.all_eq_true.2 fun i _=>rfl) G I
 exact (AV.val.inj h).symm
theorem S7 {M:Nat} {v:Value} {x:DataW H×List MemPlace} (h:DataW.trod enc Tryz.prog w 0 (fun _=>true) true M 23 [v]=some x):
  ∃ (n:Nat) (ps:List Value),ps.length=n*6∧dp n ps=true∧(AV.lst false 35 n (ad 6 ps)).Rel Tryz.prog cw (fun _=>False) w bo v:=by
 have I:Tryz.prog.cellsOf 35=6:=by kernel_rfl
 obtain ⟨n,f,O,U,Z⟩:=PU (e:=35) (by kernel_rfl) (by rw [I];decide) h
 refine ⟨n,ag 6 n (fun j q=> .val (f j q)),bI _ _ _, ?_,lE (by kernel_rfl) (List.all_eq_true.2 fun i _=>rfl) U⟩
 unfold dp
 rw [Bool.and_eq_true,decide_eq_true_eq,List.all_eq_true]
 refine ⟨O,fun j G=> ?_⟩
 rw [List.mem_range] at G
 obtain ⟨m,y,J⟩:=Z j G
 rw [I] at J
 obtain ⟨k1,ab⟩:=UN (show DataW.trod enc Tryz.prog w 0 (fun _=>true) true m 35 [f j 0,f j 1,f j 2,f j 3,f j 4,f j 5]=some y from J)
 unfold di
 rw [nD (l:= []) n f 6 G (by decide),nD (l:= []) n f 6 G (by decide),nD (l:= []) n f 6 G (by decide),nD (l:= []) n f 6 G (by decide),nD (l:= []) n f 6 G (by decide),nD (l:= []) n f 6 G (by decide),k1,ab];rfl
theorem S8 {M:Nat} {v:Value} {x:DataW H×List MemPlace} (h:DataW.trod enc Tryz.prog w 0 (fun _=>true) true M 22 [v]=some x):
  ∃ (n:Nat) (ts:List Value),ts.length=n*3∧ef n ts=true∧(AV.lst false 27 n (ad 3 ts)).Rel Tryz.prog cw (fun _=>False) w bo v:=by
 have I:Tryz.prog.cellsOf 27=3:=by kernel_rfl
 obtain ⟨n,f,O,U,Z⟩:=PU (e:=27) (by kernel_rfl) (by rw [I];decide) h
 refine ⟨n,ag 3 n (fun j q=> .val (f j q)),bI _ _ _, ?_,lE (by kernel_rfl) (List.all_eq_true.2 fun i _=>rfl) U⟩
 unfold ef
 rw [Bool.and_eq_true,decide_eq_true_eq,List.all_eq_true]
 refine ⟨O,fun j G=> ?_⟩
 rw [List.mem_range] at G
 obtain ⟨m,y,J⟩:=Z j G
 rw [I] at J
 have k1:=CP (show DataW.trod enc Tryz.prog w 0 (fun _=>true) true m 27 [f j 0,f j 1,f j 2]=some y from J)
 unfold dB
 rw [nD (l:= []) n f 3 G (by decide),nD (l:= []) n f 3 G (by decide),nD (l:= []) n f 3 G (by decide),k1]
theorem Kz {cs:Array Value} {d:DataW H} {p:List MemPlace} (h:DataW.Trod enc Tryz.prog w 0 (fun _=>true) true 25 (.agg cs) d p):
  ∃ (n:Nat) (ts:List Value) (m:Nat) (ps:List Value),ts.length=n*3∧ef n ts=true∧ps.length=m*6∧dp m ps=true∧(AV.agg [.lst false 27 n (ad 3 ts), .lst false 35 m (ad 6 ps)]).Rel Tryz.prog cw (fun _=>False) w bo (.agg cs):=by
 obtain ⟨k,I⟩:=h
 have I:DataW.trod enc Tryz.prog w 0 (fun _=>true) true k 25 cs.toList=some (d,p):=I
 obtain ⟨bx,bD,n,_,G,J,M⟩:=trod_struct2 (Tryz.underlying25) I
 have O:Tryz.prog.cellsOf 25=2:=by kernel_rfl
 have e0:Tryz.prog.cellsOf 22=1:=by kernel_rfl
 have e1:Tryz.prog.cellsOf 23=1:=by kernel_rfl
 rw [O] at G
 obtain ⟨l⟩:=cs
 have U:∃ a b,l= [a,b]:=by
  cases l with
  | nil=>cases G
  | cons a l=>cases l with
   | nil=>cases G
   | cons b l=>cases l with
    | nil=>exact ⟨a,b,rfl⟩
    | cons c l=>exact absurd G (by simp)
 obtain ⟨a,b,rfl⟩:=U
 simp only [e0,e1] at J M
 obtain ⟨ab,ts,q1,q2,aE⟩:=S8 J
 obtain ⟨Z,ps,a1,a6,a7⟩:=S7 M
 exact ⟨ab,ts,Z,ps,q1,q2,a1,a6,_,rfl,a,_,rfl,aE,b,_,rfl,a7,rfl⟩
end
end
end Go.Proofs.YtamcpiicmfielaaGreat.L
