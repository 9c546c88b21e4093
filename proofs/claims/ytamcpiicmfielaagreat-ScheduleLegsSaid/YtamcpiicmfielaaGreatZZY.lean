import Derived.Test.YtamcpiicmfielaaGreatZZX
import Derived.Test.YtamcpiicmfielaaGreatZHW
import Derived.Test.YtamcpiicmfielaaGreatZJB
set_option linter.unusedVariables false
set_option linter.unusedSimpArgs false
namespace Go.Proofs.YtamcpiicmfielaaGreat.L
open Go Go.V Go.RowKit Go.Proofs.YtamcpiicmfielaaGreat.Sp
open Go.Proofs (Tryz.prog)
noncomputable section
abbrev fB:List Bool:= [false,true,false,true,true,true,true,true,true,true]
def gY (at8:Int) (r:Bool) (c:Nat) (G:List Value) (c1:Nat) (I:List Value) (c2 i:Int) (n:Nat) (ts:List Value) (m:Nat) (ps:List Value) (n2:Nat) (us:List Value) (m2:Nat) (qs:List Value) (xb:Bool) (xn xd:ByteArray):List AV:=ao 203 [(2, .val (.int .u8 at8)),(4, .ptr 0 0),(5, .ptr 1 0),(7, .ptr 2 0),(8, .val (.bool r)),(9, .lst false 52 c (af 6 G)),(98, .lst false 52 c1 (af 6 I)),(99, .val (.int .i64 c2)),(100, .val (.int .i64 i))]
def gT (at8:Int) (r:Bool) (c:Nat) (G:List Value) (c1:Nat) (I:List Value) (c2 i:Int) (n:Nat) (ts:List Value) (m:Nat) (ps:List Value) (n2:Nat) (us:List Value) (m2:Nat) (qs:List Value) (xb:Bool) (xn xd:ByteArray):Hp:= [.row (.cells [.lst false 27 n (af 3 ts), .lst false 35 m (af 6 ps)]) 25 .live, .row (.cells [.lst false 27 n2 (af 3 us), .lst false 35 m2 (af 6 qs)]) 25 .live, .row (.cells [.val (.bool xb), .val (.string xn), .val (.string xd)]) 27 .live]
theorem RA:aI Tryz.prog 5 fB=some (.loop (lb 5 fB)):=by kernel_rfl
theorem Ti:aI Tryz.prog 5 (false :: fB)=some (lb 5 fB):=by kernel_rfl
theorem Nr (J:Qg) (at8:Int) (r:Bool) (c:Nat) (I:List Value) (c1:Nat) (G:List Value) (c2 i:Int) (n:Nat) (ts:List Value) (m:Nat) (ps:List Value) (n2:Nat) (us:List Value) (m2:Nat) (qs:List Value) (xb:Bool) (xn xd:ByteArray):letI a1:Option (Ex×List AV×Hp):=(bif ah IntKind.i64 (i+1) then some (.normal,ao 203 [(2,(.val (.int .u8 at8))),(4,(.ptr 0 0)),(5,(.ptr 1 0)),(7,(.ptr 2 0)),(8,(.val (.bool r))),(9,(.lst false 52 c (af 6 I))),(98,(.lst false 52 c1 (af 6 G))),(99,(.val (.int .i64 c2))),(100,(.val (.int .i64 (i+1))))], [(.row (.cells [(.lst false 27 n (af 3 ts)),(.lst false 35 m (af 6 ps))]) 25 .live),(.row (.cells [(.lst false 27 n2 (af 3 us)),(.lst false 35 m2 (af 6 qs))]) 25 .live),(.row (.cells [(.val (.bool xb)),(.val (.string xn)),(.val (.string xd))]) 27 .live)]) else none);letI O:=(G.getD (i.toNat*6+1) undef);letI U:=(G.getD (i.toNat*6+2) undef);letI a6:=(aF (ag O) (ag (I.getD ((i - 1).toNat*6+4) undef))&&(aF (ag U) (ag (I.getD ((i - 1).toNat*6+5) undef))&&true));letI M:=(G.getD (i.toNat*6+0) undef);letI Z:=(I.getD ((i - 1).toNat*6+3) undef);letI ab:=(G.getD (i.toNat*6+4) undef);letI aE:=(G.getD (i.toNat*6+5) undef);
  (aP Tryz.prog (qm J) 5 [2,4,5,7,8,9,98,99,100] (lb 5 fB) (false :: fB) (gY at8 r c I c1 G c2 i n ts m ps n2 us m2 qs xb xn xd) (gT at8 r c I c1 G c2 i n ts m ps n2 us m2 qs xb xn xd)=(bif decide (i < c2) then (bif decide (0≤i)&&decide (i < (↑c1:Int)) then (bif [(fun q=>af 6 G i.toNat (0+q)) (nat_lit 0),(fun q=>af 6 G i.toNat (0+q)) (nat_lit 1),(fun q=>af 6 G i.toNat (0+q)) (nat_lit 2),(fun q=>af 6 G i.toNat (0+q)) (nat_lit 3),(fun q=>af 6 G i.toNat (0+q)) (nat_lit 4),(fun q=>af 6 G i.toNat (0+q)) (nat_lit 5)].all aS then (bif aL M O U&&aL (G.getD (i.toNat*6+3) undef) ab aE&&(J.ok (ag O) (ag U)&&J.ok (ag ab) (ag aE)) then (bif decide (0≤J.cq (J.qv (ar M) (ag O) (ag U)) (J.qv (ar (G.getD (i.toNat*6+3) undef)) (ag ab) (ag aE))) then some (.ret,ao 203 [(2,(.val (.int .u8 at8))),(4,(.ptr 0 0)),(5,(.ptr 1 0)),(7,(.ptr 2 0)),(8,(.val (.bool false))),(9,(.lst false 52 c (af 6 I))),(98,(.lst false 52 c1 (af 6 G))),(99,(.val (.int .i64 c2))),(100,(.val (.int .i64 i)))], [(.row (.cells [(.lst false 27 n (af 3 ts)),(.lst false 35 m (af 6 ps))]) 25 .live),(.row (.cells [(.lst false 27 n2 (af 3 us)),(.lst false 35 m2 (af 6 qs))]) 25 .live),(.row (.cells [(.val (.bool xb)),(.val (.string xn)),(.val (.string xd))]) 27 .live)]) else (bif decide (0 < i) then (bif ah IntKind.i64 (i - 1) then (bif decide (0≤i - 1)&&decide (i - 1 < (↑c:Int)) then (bif dh M&&dh Z then (bif bP O&&bP (I.getD ((i - 1).toNat*6+4) undef) then (bif bP U&&bP (I.getD ((i - 1).toNat*6+5) undef) then (bif bif true then !(ar M==ar Z&&a6) else ar M==ar Z&&a6 then some (.ret,ao 203 [(2,(.val (.int .u8 at8))),(4,(.ptr 0 0)),(5,(.ptr 1 0)),(7,(.ptr 2 0)),(8,(.val (.bool false))),(9,(.lst false 52 c (af 6 I))),(98,(.lst false 52 c1 (af 6 G))),(99,(.val (.int .i64 c2))),(100,(.val (.int .i64 i)))], [(.row (.cells [(.lst false 27 n (af 3 ts)),(.lst false 35 m (af 6 ps))]) 25 .live),(.row (.cells [(.lst false 27 n2 (af 3 us)),(.lst false 35 m2 (af 6 qs))]) 25 .live),(.row (.cells [(.val (.bool xb)),(.val (.string xn)),(.val (.string xd))]) 27 .live)]) else a1) else none) else none) else none) else none) else none) else a1)) else none) else none) else none) else some ((.exit 0),ao 203 [(2,(.val (.int .u8 at8))),(4,(.ptr 0 0)),(5,(.ptr 1 0)),(7,(.ptr 2 0)),(8,(.val (.bool r))),(9,(.lst false 52 c (af 6 I))),(98,(.lst false 52 c1 (af 6 G))),(99,(.val (.int .i64 c2))),(100,(.val (.int .i64 i)))], [(.row (.cells [(.lst false 27 n (af 3 ts)),(.lst false 35 m (af 6 ps))]) 25 .live),(.row (.cells [(.lst false 27 n2 (af 3 us)),(.lst false 35 m2 (af 6 qs))]) 25 .live),(.row (.cells [(.val (.bool xb)),(.val (.string xn)),(.val (.string xd))]) 27 .live)]))):=by kernel_rfl
theorem E0 {at8:Int} {r:Bool} {c:Nat} {G:List Value} {c1:Nat} {I:List Value} {c2 i:Int} {n:Nat} {ts:List Value} {m:Nat} {ps:List Value} {n2:Nat} {us:List Value} {m2:Nat} {qs:List Value} {xb:Bool} {xn xd:ByteArray} {e:Ex} {T:List AV} {H:Hp} (h:aP Tryz.prog (qm ad) 5 [2,4,5,7,8,9,98,99,100] (lb 5 fB) (false :: fB) (gY at8 r c G c1 I c2 i n ts m ps n2 us m2 qs xb xn xd) (gT at8 r c G c1 I c2 i n ts m ps n2 us m2 qs xb xn xd)=some (e,T,H)):V.Ends Tryz.prog false 0 0 (lb 5 fB) (gY at8 r c G c1 I c2 i n ts m ps n2 us m2 qs xb xn xd) (gT at8 r c G c1 I c2 i n ts m ps n2 us m2 qs xb xn xd) e T H:=
 bK ((aK _).add lp.cG) aO mixed Ti h
theorem rO {S:Nat→Rat} {k i q:Nat} (hi:i < k) (M:q < 6):(cS S k).getD (i*6+q) undef= [Value.bool (ad.qn (S i)), .string (ad.qs (S i)), .string (ad.qd (S i)), .bool (ad.qn (S (i+1))), .string (ad.qs (S (i+1))), .string (ad.qd (S (i+1)))].getD q undef:=by
 induction k with
 | zero=>omega
 | succ k J=>
  unfold cS
  have I:=vv S k
  by_cases G:i < k
  ·rw [List.getD_eq_getElem?_getD,List.getElem?_append_left (by omega),← List.getD_eq_getElem?_getD]
   exact J G
  ·have:i=k:=by omega
   subst this
   rw [List.getD_eq_getElem?_getD,List.getElem?_append_right (by omega),I,Nat.add_sub_cancel_left,← List.getD_eq_getElem?_getD]
theorem tS {C:List Rat} {i:Nat} (hi:i < C.length - 1):
  (bY C).getD (i*6+0) undef= .bool (ad.qn (C.getD i 0))∧(bY C).getD (i*6+1) undef= .string (ad.qs (C.getD i 0))∧(bY C).getD (i*6+2) undef= .string (ad.qd (C.getD i 0))∧
  (bY C).getD (i*6+3) undef= .bool (ad.qn (C.getD (i+1) 0))∧(bY C).getD (i*6+4) undef= .string (ad.qs (C.getD (i+1) 0))∧(bY C).getD (i*6+5) undef= .string (ad.qd (C.getD (i+1) 0)):=
 ⟨rO hi (by decide),rO hi (by decide),rO hi (by decide),rO hi (by decide),rO hi (by decide),rO hi (by decide)⟩
theorem Mb {vs:List Value} {j:Nat} {b Z:Bool} {s d aE ab:BA} (G:vs.getD (j*6+0) undef= .bool b) (I:vs.getD (j*6+1) undef= .string s) (J:vs.getD (j*6+2) undef= .string d) (M:vs.getD (j*6+3) undef= .bool Z) (O:vs.getD (j*6+4) undef= .string aE) (U:vs.getD (j*6+5) undef= .string ab):
  [(fun q=>af 6 vs j (0+q)) (nat_lit 0),(fun q=>af 6 vs j (0+q)) (nat_lit 1),(fun q=>af 6 vs j (0+q)) (nat_lit 2),(fun q=>af 6 vs j (0+q)) (nat_lit 3),(fun q=>af 6 vs j (0+q)) (nat_lit 4),(fun q=>af 6 vs j (0+q)) (nat_lit 5)].all aS=true:=by
 show [AV.val (vs.getD (j*6+0) undef), .val (vs.getD (j*6+1) undef), .val (vs.getD (j*6+2) undef), .val (vs.getD (j*6+3) undef), .val (vs.getD (j*6+4) undef), .val (vs.getD (j*6+5) undef)].all aS=true
 rw [G,I,J,M,O,U];rfl
structure wD (c:Nat) (C:List Rat):Prop where
 two:0 < c
 len:C.length=c+1
 lim:c≤1000
 up:∀ i,i < c→C.getD i 0 < C.getD (i+1) 0
 sz:∀ i,i≤c→bk (C.getD i 0)≤1000
section
variable {at8 : Int} {r : Bool} {c : Nat} {C : List Rat} {n : Nat} {ts : List Value} {m : Nat} {ps : List Value} {n2 : Nat} {us : List Value} {m2 : Nat} {qs : List Value} {xb : Bool} {xn xd : BA}
theorem YT (h:wD c C) (j:Nat) (a7:j < c):V.Ends Tryz.prog false 0 0 (lb 5 fB) (gY at8 r c (bY C) c (bY C) c j n ts m ps n2 us m2 qs xb xn xd) (gT at8 r c (bY C) c (bY C) c j n ts m ps n2 us m2 qs xb xn xd) .normal (gY at8 r c (bY C) c (bY C) c ((j+1:Nat):Int) n ts m ps n2 us m2 qs xb xn xd) (gT at8 r c (bY C) c (bY C) c ((j+1:Nat):Int) n ts m ps n2 us m2 qs xb xn xd):=by
 have b0:=h.lim
 have bD:=h.len
 have z1:=h.sz j (by omega)
 have z2:=h.sz (j+1) (by omega)
 obtain ⟨I,J,M,O,U,Z⟩:=tS (C:=C) (i:=j) (by omega)
 have G:=Nr ad at8 r c (bY C) c (bY C) c j n ts m ps n2 us m2 qs xb xn xd
 rw [Mb (j:=(j:Int).toNat) I J M O U Z] at G
 simp only [Int.toNat_natCast,I,J,M,O,U,Z,tO] at G
 rw [show ad.ok (ag (.string (ad.qs (C.getD j 0)))) (ag (.string (ad.qd (C.getD j 0))))=true from cM (by omega),show ad.ok (ag (.string (ad.qs (C.getD (j+1) 0)))) (ag (.string (ad.qd (C.getD (j+1) 0))))=true from cM (by omega),
  show ad.qv (ar (.bool (ad.qn (C.getD j 0)))) (ag (.string (ad.qs (C.getD j 0)))) (ag (.string (ad.qd (C.getD j 0))))=C.getD j 0 from dN _,show ad.qv (ar (.bool (ad.qn (C.getD (j+1) 0)))) (ag (.string (ad.qs (C.getD (j+1) 0)))) (ag (.string (ad.qd (C.getD (j+1) 0))))=C.getD (j+1) 0 from dN _,
  dT (show (j:Int) < (c:Int) by omega),dT (show (0:Int)≤(j:Int) by omega),aJ (z:=(j:Int)+1) (by omega),dF (fun a6=>qF.1 a6 (h.up j a7))] at G
 by_cases bx:j=0
 ·rw [dF (show ¬ (0:Int) < (j:Int) by omega)] at G
  exact E0 G
 ·obtain ⟨k,rfl⟩:∃ k,j=k+1:= ⟨j - 1,by omega⟩
  obtain ⟨_,_,_,ab,aE,a1⟩:=tS (C:=C) (i:=k) (by omega)
  have e1:((k+1:Nat):Int) - 1=(k:Int):=by omega
  simp only [e1,Int.toNat_natCast,ab,aE,a1] at G
  rw [dT (show (0:Int) < ((k+1:Nat):Int) by omega),aJ (z:=(k:Int)) (by omega),dT (show (0:Int)≤(k:Int) by omega),dT (show (k:Int) < (c:Int) by omega),show aF (ag (.string (ad.qs (C.getD (k+1) 0)))) (ag (.string (ad.qs (C.getD (k+1) 0))))=true from kA _,show aF (ag (.string (ad.qd (C.getD (k+1) 0)))) (ag (.string (ad.qd (C.getD (k+1) 0))))=true from kA _,
   show (ar (.bool (ad.qn (C.getD (k+1) 0)))==ar (.bool (ad.qn (C.getD (k+1) 0))))=true from beq_self_eq_true _] at G
  exact E0 G
theorem YS (h:wD c C) (k:Nat):∀ j:Nat,c=j+k→aA Tryz.prog (lb 5 fB) (gY at8 r c (bY C) c (bY C) c j n ts m ps n2 us m2 qs xb xn xd) (gT at8 r c (bY C) c (bY C) c j n ts m ps n2 us m2 qs xb xn xd) (.exit 0) (gY at8 r c (bY C) c (bY C) c c n ts m ps n2 us m2 qs xb xn xd) (gT at8 r c (bY C) c (bY C) c c n ts m ps n2 us m2 qs xb xn xd):=by
 induction k with
 | zero=>
  intro j G
  have:c=j:=by omega
  subst this
  refine .last (E0 ?_) (by intro h;cases h)
  rw [Nr,dF (show ¬ (c:Int) < (c:Int) by omega)]
  rfl
 | succ k I=>
  intro j G
  exact .more (YT h j (by omega)) (I (j+1) (by omega))
end
def uK (at8:Int) (r:Bool) (c:Nat) (G:List Value) (c1:Nat) (I:List Value) (c2 i:Int) (n:Nat) (ts:List Value) (m:Nat) (ps:List Value) (n2:Nat) (us:List Value) (m2:Nat) (qs:List Value) (xb:Bool) (xn xd:BA):Prop:=c1=c∧I=G∧c2=c∧i=0∧∃ C,G=bY C∧wD c C
def Dy (at8:Int) (r:Bool) (c:Nat) (G:List Value) (c1:Nat) (I:List Value) (c2 i:Int) (n:Nat) (ts:List Value) (m:Nat) (ps:List Value) (n2:Nat) (us:List Value) (m2:Nat) (qs:List Value) (xb:Bool) (xn xd:BA) (ρ:Int):Prop:=ρ=c
theorem Yq (at8:Int) (r:Bool) (c:Nat) (G:List Value) (c1:Nat) (I:List Value) (c2 i:Int) (n:Nat) (ts:List Value) (m:Nat) (ps:List Value) (n2:Nat) (us:List Value) (m2:Nat) (qs:List Value) (xb:Bool) (xn xd:BA) (h:uK at8 r c G c1 I c2 i n ts m ps n2 us m2 qs xb xn xd):∃ ρ:Int,aA Tryz.prog (lb 5 fB) (gY at8 r c G c1 I c2 i n ts m ps n2 us m2 qs xb xn xd) (gT at8 r c G c1 I c2 i n ts m ps n2 us m2 qs xb xn xd) (.exit 0) (gY at8 r c G c1 I c2 ρ n ts m ps n2 us m2 qs xb xn xd) (gT at8 r c G c1 I c2 ρ n ts m ps n2 us m2 qs xb xn xd)∧Dy at8 r c G c1 I c2 i n ts m ps n2 us m2 qs xb xn xd ρ:=by
 obtain ⟨rfl,rfl,rfl,rfl,C,rfl,h⟩:=h
 exact ⟨(c1:Int),YS h c1 0 (by omega),rfl⟩
def F6 (ab:Int→Bool→Nat→List Value→Nat→List Value→Int→Int→Nat→List Value→Nat→List Value→Nat→List Value→Nat→List Value→Bool→ByteArray→ByteArray→Bool) (Z:Int→Bool→Nat→List Value→Nat→List Value→Int→Int→Nat→List Value→Nat→List Value→Nat→List Value→Nat→List Value→Bool→ByteArray→ByteArray→Int) (T:List AV) (H:Hp):Option (Bool×Ex×List AV×Hp):=
 match al T 2,al T 4,al T 5,al T 7,al T 8,al T 9,al T 98,al T 99,al T 100,H with
 | .val (.int .u8 at8), .ptr 0 0, .ptr 1 0, .ptr 2 0, .val (.bool r), .lst false 52 c J, .lst false 52 c1 M, .val (.int .i64 c2), .val (.int .i64 i), [.row (.cells [.lst false 27 n O, .lst false 35 m G]) 25 .live, .row (.cells [.lst false 27 n2 U, .lst false 35 m2 I]) 25 .live, .row (.cells [.val (.bool xb), .val (.string xn), .val (.string xd)]) 27 .live]=>bif T.length==203 then some (aw 6 c J&&aw 6 c1 M&&aw 3 n O&&aw 6 m G&&aw 3 n2 U&&aw 6 m2 I&&ab at8 r c (ai 6 c J) c1 (ai 6 c1 M) c2 i n (ai 3 n O) m (ai 6 m G) n2 (ai 3 n2 U) m2 (ai 6 m2 I) xb xn xd, .exit 0,gY at8 r c (ai 6 c J) c1 (ai 6 c1 M) c2 ((Z at8 r c (ai 6 c J) c1 (ai 6 c1 M) c2 i n (ai 3 n O) m (ai 6 m G) n2 (ai 3 n2 U) m2 (ai 6 m2 I) xb xn xd)) n (ai 3 n O) m (ai 6 m G) n2 (ai 3 n2 U) m2 (ai 6 m2 I) xb xn xd,gT at8 r c (ai 6 c J) c1 (ai 6 c1 M) c2 ((Z at8 r c (ai 6 c J) c1 (ai 6 c1 M) c2 i n (ai 3 n O) m (ai 6 m G) n2 (ai 3 n2 U) m2 (ai 6 m2 I) xb xn xd)) n (ai 3 n O) m (ai 6 m G) n2 (ai 3 n2 U) m2 (ai 6 m2 I) xb xn xd) else none
 | _,_,_,_,_,_,_,_,_,_=>none
abbrev Ig:Type:=Int→Bool→Nat→List Value→Nat→List Value→Int→Int→Nat→List Value→Nat→List Value→Nat→List Value→Nat→List Value→Bool→ByteArray→ByteArray→Bool
abbrev HH:Type:=Int→Bool→Nat→List Value→Nat→List Value→Int→Int→Nat→List Value→Nat→List Value→Nat→List Value→Nat→List Value→Bool→ByteArray→ByteArray→Int
def Bm (G:Ig) (I:HH) (L:aD):aD:=bu 0 5 fB [2,4,5,7,8,9,98,99,100] (F6 G I) L
def pC (at8:Int) (r:Bool) (c:Nat) (G:List Value) (c1:Nat) (I:List Value) (c2 i:Int) (n:Nat) (ts:List Value) (m:Nat) (ps:List Value) (n2:Nat) (us:List Value) (m2:Nat) (qs:List Value) (xb:Bool) (xn xd:ByteArray):Int:=Classical.epsilon fun ρ=>aA Tryz.prog (lb 5 fB) (gY at8 r c G c1 I c2 i n ts m ps n2 us m2 qs xb xn xd) (gT at8 r c G c1 I c2 i n ts m ps n2 us m2 qs xb xn xd) (.exit 0) (gY at8 r c G c1 I c2 (ρ) n ts m ps n2 us m2 qs xb xn xd) (gT at8 r c G c1 I c2 (ρ) n ts m ps n2 us m2 qs xb xn xd)∧Dy at8 r c G c1 I c2 i n ts m ps n2 us m2 qs xb xn xd ρ
theorem ZV (at8:Int) (r:Bool) (c:Nat) (G:List Value) (c1:Nat) (I:List Value) (c2 i:Int) (n:Nat) (ts:List Value) (m:Nat) (ps:List Value) (n2:Nat) (us:List Value) (m2:Nat) (qs:List Value) (xb:Bool) (xn xd:ByteArray) (h:uK at8 r c G c1 I c2 i n ts m ps n2 us m2 qs xb xn xd):aA Tryz.prog (lb 5 fB) (gY at8 r c G c1 I c2 i n ts m ps n2 us m2 qs xb xn xd) (gT at8 r c G c1 I c2 i n ts m ps n2 us m2 qs xb xn xd) (.exit 0) (gY at8 r c G c1 I c2 ((pC at8 r c G c1 I c2 i n ts m ps n2 us m2 qs xb xn xd)) n ts m ps n2 us m2 qs xb xn xd) (gT at8 r c G c1 I c2 ((pC at8 r c G c1 I c2 i n ts m ps n2 us m2 qs xb xn xd)) n ts m ps n2 us m2 qs xb xn xd)∧Dy at8 r c G c1 I c2 i n ts m ps n2 us m2 qs xb xn xd (pC at8 r c G c1 I c2 i n ts m ps n2 us m2 qs xb xn xd):=Classical.epsilon_spec (Yq at8 r c G c1 I c2 i n ts m ps n2 us m2 qs xb xn xd h)
def sU (at8:Int) (r:Bool) (c:Nat) (G:List Value) (c1:Nat) (I:List Value) (c2 i:Int) (n:Nat) (ts:List Value) (m:Nat) (ps:List Value) (n2:Nat) (us:List Value) (m2:Nat) (qs:List Value) (xb:Bool) (xn xd:ByteArray):Bool:= @decide (uK at8 r c G c1 I c2 i n ts m ps n2 us m2 qs xb xn xd) (Classical.propDecidable _)
theorem Uf (at8:Int) (r:Bool) (c:Nat) (G:List Value) (c1:Nat) (I:List Value) (c2 i:Int) (n:Nat) (ts:List Value) (m:Nat) (ps:List Value) (n2:Nat) (us:List Value) (m2:Nat) (qs:List Value) (xb:Bool) (xn xd:ByteArray) (h:uK at8 r c G c1 I c2 i n ts m ps n2 us m2 qs xb xn xd):sU at8 r c G c1 I c2 i n ts m ps n2 us m2 qs xb xn xd=true:= @decide_eq_true _ (Classical.propDecidable _) h
theorem adq (T:List AV) (H:Hp) (e:Ex) (M:List AV) (J:Hp) (h:F6 sU pC T H=some (true,e,M,J)):V.Ends Tryz.prog false 0 0 (.loop (lb 5 fB)) T H e M J:=by
 unfold F6 at h
 split at h
 ·rename_i at8 r c aE c1 a1 c2 i n a6 m Z n2 a7 m2 ab xb xn xd bD b0 b1 b2 b3 b4 b5 b6 bx
  rw [Bool.cond_eq_ite] at h
  split at h
  ·rename_i O
   rw [beq_iff_eq] at O
   simp only [Option.some.injEq,Prod.mk.injEq,Bool.and_eq_true,decide_eq_true_eq] at h
   obtain ⟨⟨⟨⟨⟨⟨⟨k1,ch⟩,ct⟩,c0⟩,c3⟩,c4⟩,c5⟩,rfl,rfl,rfl⟩:=h
   have c6:= @of_decide_eq_true _ (Classical.propDecidable _) c5
   refine Ends.pre (Ends.iM (ZV at8 r c (ai 6 c aE) c1 (ai 6 c1 a1) c2 i n (ai 3 n a6) m (ai 6 m Z) n2 (ai 3 n2 a7) m2 (ai 6 m2 ab) xb xn xd c6).1.ends (bL.cons ⟨⟨rfl,fun _ _ _ _ _ I=>mV (by kernel_rfl) (by kernel_rfl) ct c0 I⟩,rfl,rfl⟩ (bL.cons ⟨⟨rfl,fun _ _ _ _ _ I=>mV (by kernel_rfl) (by kernel_rfl) c3 c4 I⟩,rfl,rfl⟩ (bL.cons (gC.refl _) bL.nil)))) (fun α B w D c7 b7=>bw O (fun p U y G=> ?_) b7)
   simp only [List.mem_cons,List.not_mem_nil,or_false] at U
   rcases U with rfl | rfl | rfl | rfl | rfl | rfl | rfl | rfl | rfl
   ·rw [bD] at G;exact G
   ·rw [b0] at G;exact G
   ·rw [b1] at G;exact G
   ·rw [b2] at G;exact G
   ·rw [b3] at G;exact G
   ·rw [b4] at G;exact kV (by kernel_rfl) k1 G
   ·rw [b5] at G;exact kV (by kernel_rfl) ch G
   ·rw [b6] at G;exact G
   ·rw [bx] at G;exact G
  ·cases h
 ·cases h
theorem Qo {L:aD} (h:aC Tryz.prog L):aC Tryz.prog (Bm sU pC L):=h.bC RA adq
end
end Go.Proofs.YtamcpiicmfielaaGreat.L
namespace Go.Proofs.YtamcpiicmfielaaGreat.L
open Go Go.V Go.RowKit Go.Proofs.YtamcpiicmfielaaGreat.Sp
open Go.Proofs (Tryz.prog)
noncomputable section
def FH (V:Vg) (G:Qg):TF:=p5 fun b n d c m e Z n2 O c2 m2 U M J I=>some (V.dd n d&&V.dd m e&&V.dd n2 O&&V.dd m2 U&&V.dd J I,G.pair (V.gG (G.qv b n d) (G.qv Z n2 O) (G.qv M J I)) (V.gG (G.qv c m e) (G.qv c2 m2 U) (G.qv M J I)))
theorem V8:Entry Tryz.prog 32 (FH dp ad):=by
 refine aZ (E:= ⟨wh ad,az,aq⟩) (u:=10) (d:=10) GX aO mixed (by kernel_rfl) (fun args r h=> ?_)
 unfold FH p5 at h
 split at h
 ·rename_i b n d c m e G n2 J c2 m2 O I a7 M
  simp only [Option.some.injEq,Prod.mk.injEq,Bool.and_eq_true] at h
  obtain ⟨⟨⟨⟨⟨U,Z⟩,ab⟩,aE⟩,a1⟩,rfl⟩:=h
  have a6:=Pv ad b c G c2 I n d m e n2 J m2 O a7 M
  have b3:=rm (b:=b) U
  have b4:=rm (b:=c) Z
  have b5:=rm (b:=G) ab
  have b6:=rm (b:=c2) aE
  have b7:=rm (b:=I) a1
  have o1:=rl U
  have o2:=rl Z
  have o3:=rl ab
  have o4:=rl aE
  have b2:=rl a1
  rw [wL,wL]
  generalize ad.qv b n d=x at*
  generalize ad.qv c m e=y at*
  generalize ad.qv G n2 J=u at*
  generalize ad.qv c2 m2 O=v at*
  generalize ad.qv I a7 M=t at*
  have z1:=lS u x
  have z2:=lS v y
  have z3:=r5 (u - x) t
  have z4:=r5 (v - y) t
  have bx:=cM (q:=u - x) (by omega)
  have bD:=cM (q:=v - y) (by omega)
  have b0:=cM (q:=(u - x)*t) (by omega)
  have b1:=cM (q:=(v - y)*t) (by omega)
  simp only [dN,o1,o2,o3,o4,b2,bx,bD,b0,b1,Bool.and_self,cond_true] at a6
  exact a6
 ·cases h
end
end Go.Proofs.YtamcpiicmfielaaGreat.L
namespace Go.Proofs.YtamcpiicmfielaaGreat.L
open Go Go.V Go.RowKit Go.Proofs.YtamcpiicmfielaaGreat.Sp
open Go.Proofs (Tryz.prog)
noncomputable section
def z6 (I:Gg) (C:Cg) (K:Hg) (A:Ag) (V:Vg) (L:Lh) (G:Qg):FuncId→TF:=GS I C K G (au 24 (Ft L) (au 12 (CB (Fi A G)) (au 23 (cG (nj G)) (au 31 (cG (r8 G)) (au 30 (cG (vQ G)) (au 29 (cG (pV G)) (au 27 (zC G) (au 28 (zA G) (au 32 (oO (FH V G)) aM)))))))))
def zZ (I:Gg) (C:Cg) (K:Hg) (L:Lh) (G:Qg):FuncId→TF:=GS I C K G (au 24 (Fs L) (au 23 (cG (nj G)) aM))
theorem Lj (bD:Gg) (C:Cg) (K:Hg) (L:Lh) (G:Qg) (n:Nat) (ts:List Value) (m:Nat) (ps:List Value) (n2:Nat) (us:List Value) (m2:Nat) (qs:List Value) (at8:Int) (xb:Bool) (xn xd:BA):letI I:=((↑n2:Int) - 1);letI b1:=(us.getD (I.toNat*3+0) undef);letI Z:=(us.getD (I.toNat*3+1) undef);letI M:=(us.getD (I.toNat*3+2) undef);letI a7:=(G.qv (ar b1) (ag Z) (ag M));letI J:=((↑n:Int) - 1);letI b0:=(ts.getD (J.toNat*3+0) undef);letI O:=(ts.getD (J.toNat*3+1) undef);letI U:=(ts.getD (J.toNat*3+2) undef);letI bx:=(G.qv (ar b0) (ag O) (ag U));letI ab:=(ts.getD 1 undef);letI aE:=(ts.getD 2 undef);letI b6:=(G.qv (ar (ts.getD 0 undef)) (ag ab) (ag aE));letI a1:=(us.getD 1 undef);letI a6:=(us.getD 2 undef);letI b7:=(G.qv (ar (us.getD 0 undef)) (ag a1) (ag a6));letI b2:=(ai 3 n2 (af 3 us));letI b3:=(ai 6 m2 (af 6 qs));letI b4:=(ai 3 n (af 3 ts));letI b5:=(ai 6 m (af 6 ps));
  (aG Tryz.prog ⟨zZ bD C K L G,az,aq⟩ 10 10 5 [bO n ts m ps,bO n2 us m2 qs, .val (.int .u8 at8),w3 xb xn xd]=(bif aw 3 n (af 3 ts)&&aw 6 m (af 6 ps)&&bD.go n b4 m b5 then (bif bD.gt n b4 m b5 then some (.val (.bool true)) else (bif aw 3 n (af 3 ts)&&aw 6 m (af 6 ps)&&C.ko n b4 m b5 then (bif !decide (C.ck n b4 m b5=0) then some (.val (.bool true)) else (bif aw 3 n2 (af 3 us)&&aw 6 m2 (af 6 qs)&&bD.go n2 b2 m2 b3 then (bif bD.gt n2 b2 m2 b3 then some (.val (.bool true)) else (bif aw 3 n2 (af 3 us)&&aw 6 m2 (af 6 qs)&&C.ko n2 b2 m2 b3 then (bif !decide (C.ck n2 b2 m2 b3=0) then some (.val (.bool true)) else (bif K.gr xn xd then some (.val (.bool true)) else (bif G.ok xn xd then (bif !decide (G.ck xb xn xd=0) then some (.val (.bool true)) else (bif aw 3 n (af 3 ts)&&aw 6 m (af 6 ps)&&(aw 3 n2 (af 3 us)&&aw 6 m2 (af 6 qs))&&L.ln n b4 m b5 n2 b2 m2 b3 then (bif decide (0 < (↑n:Int)) then (bif decide (0 < (↑n2:Int)) then (bif qR3 ts (Int.toNat (0:Int)) then (bif qR3 us (Int.toNat (0:Int)) then (bif aL (ts.getD 0 undef) ab aE&&aL (us.getD 0 undef) a1 a6&&(G.ok (ag ab) (ag aE)&&G.ok (ag a1) (ag a6)) then (bif decide (G.cq b6 b7 < 0) then (bif qR3 us (Int.toNat (0:Int)) then (bif ah IntKind.i64 J then (bif decide (0≤(↑n:Int) - 1)&&decide ((↑n:Int) - 1 < (↑n:Int)) then (bif ah IntKind.i64 I then (bif decide (0≤(↑n2:Int) - 1)&&decide ((↑n2:Int) - 1 < (↑n2:Int)) then (bif qR3 ts J.toNat then (bif qR3 us I.toNat then (bif aL b0 O U&&aL b1 Z M&&(G.ok (ag O) (ag U)&&G.ok (ag Z) (ag M)) then (bif decide (G.cq bx a7 < 0) then (bif qR3 ts J.toNat then (bif qR3 us (Int.toNat (0:Int)) then (bif qR3 ts J.toNat then (bif aL (us.getD 0 undef) a1 a6&&aL b0 O U&&(G.ok (ag a1) (ag a6)&&G.ok (ag O) (ag U)) then (bif bif true then !false==decide (G.cq b7 bx < 0) else false==decide (G.cq b7 bx < 0) then some (.val (.bool false)) else some (.val (.bool true))) else none) else none) else none) else none) else (bif qR3 us I.toNat then (bif qR3 us (Int.toNat (0:Int)) then (bif qR3 us I.toNat then (bif aL (us.getD 0 undef) a1 a6&&aL b1 Z M&&(G.ok (ag a1) (ag a6)&&G.ok (ag Z) (ag M)) then (bif bif true then !false==decide (G.cq b7 a7 < 0) else false==decide (G.cq b7 a7 < 0) then some (.val (.bool false)) else some (.val (.bool true))) else none) else none) else none) else none)) else none) else none) else none) else none) else none) else none) else none) else none) else (bif qR3 ts (Int.toNat (0:Int)) then (bif ah IntKind.i64 J then (bif decide (0≤(↑n:Int) - 1)&&decide ((↑n:Int) - 1 < (↑n:Int)) then (bif ah IntKind.i64 I then (bif decide (0≤(↑n2:Int) - 1)&&decide ((↑n2:Int) - 1 < (↑n2:Int)) then (bif qR3 ts J.toNat then (bif qR3 us I.toNat then (bif aL b0 O U&&aL b1 Z M&&(G.ok (ag O) (ag U)&&G.ok (ag Z) (ag M)) then (bif decide (G.cq bx a7 < 0) then (bif qR3 ts J.toNat then (bif qR3 ts (Int.toNat (0:Int)) then (bif qR3 ts J.toNat then (bif aL (ts.getD 0 undef) ab aE&&aL b0 O U&&(G.ok (ag ab) (ag aE)&&G.ok (ag O) (ag U)) then (bif bif true then !false==decide (G.cq b6 bx < 0) else false==decide (G.cq b6 bx < 0) then some (.val (.bool false)) else some (.val (.bool true))) else none) else none) else none) else none) else (bif qR3 us I.toNat then (bif qR3 ts (Int.toNat (0:Int)) then (bif qR3 us I.toNat then (bif aL (ts.getD 0 undef) ab aE&&aL b1 Z M&&(G.ok (ag ab) (ag aE)&&G.ok (ag Z) (ag M)) then (bif bif true then !false==decide (G.cq b6 a7 < 0) else false==decide (G.cq b6 a7 < 0) then some (.val (.bool false)) else some (.val (.bool true))) else none) else none) else none) else none)) else none) else none) else none) else none) else none) else none) else none) else none)) else none) else none) else none) else none) else none) else none)) else none))) else none)) else none)) else none)) else none)):=by kernel_rfl
end
end Go.Proofs.YtamcpiicmfielaaGreat.L
namespace Go.Proofs.YtamcpiicmfielaaGreat.L
open Go Go.V Go.RowKit Go.Proofs.YtamcpiicmfielaaGreat.Sp
open Go.Proofs (Tryz.prog)
noncomputable section
theorem XQ (e3:Gg) (C:Cg) (K:Hg) (A:Ag) (V:Vg) (L:Lh) (G:Qg) (hf:Ig) (hg:HH) (n:Nat) (ts:List Value) (m:Nat) (ps:List Value) (n2:Nat) (us:List Value) (m2:Nat) (qs:List Value) (at8:Int) (xb:Bool) (xn xd:BA):letI U:=(ai 3 n (af 3 ts));letI Z:=(ai 3 n2 (af 3 us));letI b0:=(ai 6 (L.lc n U n2 Z) (af 6 (L.lr n U n2 Z)));letI I:=(↑(L.lc n U n2 Z):Int);letI b1:=(at8.tmod I);letI b4:=(b0.getD (b1.toNat*6+0) undef);letI b2:=(b0.getD (b1.toNat*6+1) undef);letI b3:=(b0.getD (b1.toNat*6+2) undef);letI O:=(b0.getD (b1.toNat*6+3) undef);letI J:=(ag (b0.getD (b1.toNat*6+4) undef));letI M:=(ag (b0.getD (b1.toNat*6+5) undef));letI e4:=(G.qv (ar O) J M - G.qv (ar b4) (ag b2) (ag b3));letI e7:=(G.qv xb xn xd*G.qv (G.qn e4) (G.qs e4) (G.qd e4));letI a1:=(G.qv (ar b4) (ag b2) (ag b3)+G.qv (G.qn e7) (G.qs e7) (G.qd e7));letI c3:=(ai 6 m (af 6 ps));letI c0:=(ai 6 m2 (af 6 qs));letI bx:=(ai 3 n (af 3 U));letI a7:=(ai 6 m (af 6 c3));letI fh:=(A.ax n bx m a7 (ar b4) (ag b2) (ag b3));letI fs:=(A.ay n bx m a7 (ar b4) (ag b2) (ag b3));letI eo:=(A.ax n bx m a7 (G.qn a1) (G.qs a1) (G.qd a1));letI eN:=(V.gG (G.qv (G.qn fh) (G.qs fh) (G.qd fh)) (G.qv (G.qn (A.ax n bx m a7 (ar O) J M)) (G.qs (A.ax n bx m a7 (ar O) J M)) (G.qd (A.ax n bx m a7 (ar O) J M))) (G.qv xb xn xd));letI ep:=(A.ay n bx m a7 (G.qn a1) (G.qs a1) (G.qd a1));letI e2:=(V.gG (G.qv (G.qn fs) (G.qs fs) (G.qd fs)) (G.qv (G.qn (A.ay n bx m a7 (ar O) J M)) (G.qs (A.ay n bx m a7 (ar O) J M)) (G.qd (A.ay n bx m a7 (ar O) J M))) (G.qv xb xn xd));letI bD:=(ai 3 n2 (af 3 Z));letI a6:=(ai 6 m2 (af 6 c0));letI fa:=(A.ax n2 bD m2 a6 (ar b4) (ag b2) (ag b3));letI fc:=(A.ay n2 bD m2 a6 (ar b4) (ag b2) (ag b3));letI ek:=(A.ax n2 bD m2 a6 (G.qn a1) (G.qs a1) (G.qd a1));letI et:=(V.gG (G.qv (G.qn fa) (G.qs fa) (G.qd fa)) (G.qv (G.qn (A.ax n2 bD m2 a6 (ar O) J M)) (G.qs (A.ax n2 bD m2 a6 (ar O) J M)) (G.qd (A.ax n2 bD m2 a6 (ar O) J M))) (G.qv xb xn xd));letI en:=(A.ay n2 bD m2 a6 (G.qn a1) (G.qs a1) (G.qd a1));letI ez:=(V.gG (G.qv (G.qn fc) (G.qs fc) (G.qd fc)) (G.qv (G.qn (A.ay n2 bD m2 a6 (ar O) J M)) (G.qs (A.ay n2 bD m2 a6 (ar O) J M)) (G.qd (A.ay n2 bD m2 a6 (ar O) J M))) (G.qv xb xn xd));letI hd:Option AV:=(bif aw 6 (L.lc n U n2 Z) (af 6 (L.lr n U n2 Z))&&aw 6 (L.lc n U n2 Z) (af 6 (L.lr n U n2 Z))&&aw 3 n (af 3 ts)&&aw 6 m (af 6 ps)&&aw 3 n2 (af 3 us)&&aw 6 m2 (af 6 qs)&&hf at8 false (L.lc n U n2 Z) b0 (L.lc n U n2 Z) b0 I (0:Int) n U m c3 n2 Z m2 c0 xb xn xd then (bif G.ok xn xd then (bif decide (G.sq (G.qv xb xn xd) < 0) then some (.val (.bool true)) else (bif G.ok xn xd&&G.ok (G.qs (G.fr (1:Int) (1:Int))) (G.qd (G.fr (1:Int) (1:Int))) then (bif decide (0 < G.cq (G.qv xb xn xd) (G.qv (G.qn (G.fr (1:Int) (1:Int))) (G.qs (G.fr (1:Int) (1:Int))) (G.qd (G.fr (1:Int) (1:Int))))) then some (.val (.bool true)) else (bif ah IntKind.i64 at8 then (bif decide (I=0) then none else (bif decide (0≤at8.tmod I)&&decide (at8.tmod I < I) then (bif [(fun q=>af 6 b0 b1.toNat (0+q)) (nat_lit 0),(fun q=>af 6 b0 b1.toNat (0+q)) (nat_lit 1),(fun q=>af 6 b0 b1.toNat (0+q)) (nat_lit 2),(fun q=>af 6 b0 b1.toNat (0+q)) (nat_lit 3),(fun q=>af 6 b0 b1.toNat (0+q)) (nat_lit 4),(fun q=>af 6 b0 b1.toNat (0+q)) (nat_lit 5)].all aS then (bif aL O (b0.getD (b1.toNat*6+4) undef) (b0.getD (b1.toNat*6+5) undef)&&aL b4 b2 b3&&(G.ok J M&&G.ok (ag b2) (ag b3)) then (bif G.ok xn xd&&G.ok (G.qs e4) (G.qd e4) then (bif aL b4 b2 b3&&true&&(G.ok (ag b2) (ag b3)&&G.ok (G.qs e7) (G.qd e7)) then (bif aL b4 b2 b3&&(aw 3 n (af 3 U)&&aw 6 m (af 6 c3)&&A.ak n bx m a7 (ag b2) (ag b3)) then (bif aL O (b0.getD (b1.toNat*6+4) undef) (b0.getD (b1.toNat*6+5) undef)&&(aw 3 n (af 3 U)&&aw 6 m (af 6 c3)&&A.ak n bx m a7 J M) then (bif aw 3 n (af 3 U)&&aw 6 m (af 6 c3)&&A.ak n bx m a7 (G.qs a1) (G.qd a1) then (bif !decide (A.ae n bx m a7 (ar b4) (ag b2) (ag b3)=0) then some (.val (.bool false)) else (bif !decide (A.ae n bx m a7 (ar O) J M=0) then some (.val (.bool false)) else (bif !decide (A.ae n bx m a7 (G.qn a1) (G.qs a1) (G.qd a1)=0) then some (.val (.bool false)) else (bif V.dd (G.qs fh) (G.qd fh)&&V.dd (G.qs fs) (G.qd fs)&&V.dd (G.qs (A.ax n bx m a7 (ar O) J M)) (G.qd (A.ax n bx m a7 (ar O) J M))&&V.dd (G.qs (A.ay n bx m a7 (ar O) J M)) (G.qd (A.ay n bx m a7 (ar O) J M))&&V.dd xn xd then (bif bif true then !(G.qn eo==G.qn eN&&(aF (G.qs eo) (G.qs eN)&&(aF (G.qd eo) (G.qd eN)&&true))&&(G.qn ep==G.qn e2&&(aF (G.qs ep) (G.qs e2)&&(aF (G.qd ep) (G.qd e2)&&true))&&true)) else G.qn eo==G.qn eN&&(aF (G.qs eo) (G.qs eN)&&(aF (G.qd eo) (G.qd eN)&&true))&&(G.qn ep==G.qn e2&&(aF (G.qs ep) (G.qs e2)&&(aF (G.qd ep) (G.qd e2)&&true))&&true) then some (.val (.bool false)) else (bif aL b4 b2 b3&&(aw 3 n2 (af 3 Z)&&aw 6 m2 (af 6 c0)&&A.ak n2 bD m2 a6 (ag b2) (ag b3)) then (bif aL O (b0.getD (b1.toNat*6+4) undef) (b0.getD (b1.toNat*6+5) undef)&&(aw 3 n2 (af 3 Z)&&aw 6 m2 (af 6 c0)&&A.ak n2 bD m2 a6 J M) then (bif aw 3 n2 (af 3 Z)&&aw 6 m2 (af 6 c0)&&A.ak n2 bD m2 a6 (G.qs a1) (G.qd a1) then (bif !decide (A.ae n2 bD m2 a6 (ar b4) (ag b2) (ag b3)=0) then some (.val (.bool false)) else (bif !decide (A.ae n2 bD m2 a6 (ar O) J M=0) then some (.val (.bool false)) else (bif !decide (A.ae n2 bD m2 a6 (G.qn a1) (G.qs a1) (G.qd a1)=0) then some (.val (.bool false)) else (bif V.dd (G.qs fa) (G.qd fa)&&V.dd (G.qs fc) (G.qd fc)&&V.dd (G.qs (A.ax n2 bD m2 a6 (ar O) J M)) (G.qd (A.ax n2 bD m2 a6 (ar O) J M))&&V.dd (G.qs (A.ay n2 bD m2 a6 (ar O) J M)) (G.qd (A.ay n2 bD m2 a6 (ar O) J M))&&V.dd xn xd then (bif bif true then !(G.qn ek==G.qn et&&(aF (G.qs ek) (G.qs et)&&(aF (G.qd ek) (G.qd et)&&true))&&(G.qn en==G.qn ez&&(aF (G.qs en) (G.qs ez)&&(aF (G.qd en) (G.qd ez)&&true))&&true)) else G.qn ek==G.qn et&&(aF (G.qs ek) (G.qs et)&&(aF (G.qd ek) (G.qd et)&&true))&&(G.qn en==G.qn ez&&(aF (G.qs en) (G.qs ez)&&(aF (G.qd en) (G.qd ez)&&true))&&true) then some (.val (.bool false)) else some (.val (.bool true))) else none)))) else none) else none) else none)) else none)))) else none) else none) else none) else none) else none) else none) else none) else none)) else none)) else none)) else none) else none);letI ed:=((L.lr n U n2 Z).getD ((I - 1).toNat*6+3) undef);letI ab:=((↑n2:Int) - 1);letI ea:=(us.getD (ab.toNat*3+0) undef);letI eg:=((L.lr n U n2 Z).getD ((I - 1).toNat*6+4) undef);letI b7:=(us.getD (ab.toNat*3+1) undef);letI eh:=((L.lr n U n2 Z).getD ((I - 1).toNat*6+5) undef);letI ch:=(us.getD (ab.toNat*3+2) undef);letI gn:Option AV:=(bif ah IntKind.i64 (I - 1) then (bif decide (0≤I - 1)&&decide (I - 1 < I) then (bif dh ed&&dh ea then (bif bP eg&&bP b7 then (bif bP eh&&bP ch then (bif bif true then !(ar ed==ar ea&&(aF (ag eg) (ag b7)&&(aF (ag eh) (ag ch)&&true))) else ar ed==ar ea&&(aF (ag eg) (ag b7)&&(aF (ag eh) (ag ch)&&true)) then some (.val (.bool false)) else hd) else none) else none) else none) else none) else none);letI aE:=((↑n:Int) - 1);letI dy:=(ts.getD (aE.toNat*3+0) undef);letI b5:=(ts.getD (aE.toNat*3+1) undef);letI b6:=(ts.getD (aE.toNat*3+2) undef);letI hc:Option AV:=(bif ah IntKind.i64 (I - 1) then (bif decide (0≤I - 1)&&decide (I - 1 < I) then (bif dh ed&&dh dy then (bif bP eg&&bP b5 then (bif bP eh&&bP b6 then (bif bif true then !(ar ed==ar dy&&(aF (ag eg) (ag b5)&&(aF (ag eh) (ag b6)&&true))) else ar ed==ar dy&&(aF (ag eg) (ag b5)&&(aF (ag eh) (ag b6)&&true)) then some (.val (.bool false)) else hd) else none) else none) else none) else none) else none);letI eb:=(G.qv (ar dy) (ag b5) (ag b6));letI ec:=(G.qv (ar ea) (ag b7) (ag ch));letI eu:=((L.lr n U n2 Z).getD 1 undef);letI dx:=(us.getD 1 undef);letI ev:=((L.lr n U n2 Z).getD 2 undef);letI fv:=(aF (ag eu) (ag dx)&&(aF (ag ev) (ag (us.getD 2 undef))&&true));letI c5:=(ts.getD 1 undef);letI c6:=(ts.getD 2 undef);letI gf:=(aF (ag eu) (ag c5)&&(aF (ag ev) (ag c6)&&true));letI ct:=((L.lr n U n2 Z).getD 0 undef);letI c4:=(ts.getD 0 undef);letI e5:=(G.qv (ar c4) (ag c5) (ag c6));letI c7:=(us.getD 0 undef);letI e6:=(G.qv (ar c7) (ag dx) (ag (us.getD 2 undef)));
  (aG Tryz.prog ⟨z6 e3 C K A V L G,az,Bm hf hg aq⟩ 10 10 5 [bO n ts m ps,bO n2 us m2 qs, .val (.int .u8 at8),w3 xb xn xd]=(bif aw 3 n (af 3 ts)&&aw 6 m (af 6 ps)&&e3.go n U m c3 then (bif e3.gt n U m c3 then some (.val (.bool true)) else (bif aw 3 n (af 3 ts)&&aw 6 m (af 6 ps)&&C.ko n U m c3 then (bif !decide (C.ck n U m c3=0) then some (.val (.bool true)) else (bif aw 3 n2 (af 3 us)&&aw 6 m2 (af 6 qs)&&e3.go n2 Z m2 c0 then (bif e3.gt n2 Z m2 c0 then some (.val (.bool true)) else (bif aw 3 n2 (af 3 us)&&aw 6 m2 (af 6 qs)&&C.ko n2 Z m2 c0 then (bif !decide (C.ck n2 Z m2 c0=0) then some (.val (.bool true)) else (bif K.gr xn xd then some (.val (.bool true)) else (bif G.ok xn xd then (bif !decide (G.ck xb xn xd=0) then some (.val (.bool true)) else (bif aw 3 n (af 3 ts)&&aw 6 m (af 6 ps)&&(aw 3 n2 (af 3 us)&&aw 6 m2 (af 6 qs))&&L.lo n U m c3 n2 Z m2 c0 then (bif decide (0 < (↑n:Int)) then (bif decide (0 < (↑n2:Int)) then (bif qR3 ts (Int.toNat (0:Int)) then (bif qR3 us (Int.toNat (0:Int)) then (bif aL c4 c5 c6&&aL c7 dx (us.getD 2 undef)&&(G.ok (ag c5) (ag c6)&&G.ok (ag dx) (ag (us.getD 2 undef))) then (bif decide (G.cq e5 e6 < 0) then (bif qR3 us (Int.toNat (0:Int)) then (bif ah IntKind.i64 aE then (bif decide (0≤(↑n:Int) - 1)&&decide ((↑n:Int) - 1 < (↑n:Int)) then (bif ah IntKind.i64 ab then (bif decide (0≤(↑n2:Int) - 1)&&decide ((↑n2:Int) - 1 < (↑n2:Int)) then (bif qR3 ts aE.toNat then (bif qR3 us ab.toNat then (bif aL dy b5 b6&&aL ea b7 ch&&(G.ok (ag b5) (ag b6)&&G.ok (ag b7) (ag ch)) then (bif decide (G.cq eb ec < 0) then (bif qR3 ts aE.toNat then (bif qR3 us (Int.toNat (0:Int)) then (bif qR3 ts aE.toNat then (bif aL c7 dx (us.getD 2 undef)&&aL dy b5 b6&&(G.ok (ag dx) (ag (us.getD 2 undef))&&G.ok (ag b5) (ag b6)) then (bif bif true then !decide (0 < I)==decide (G.cq e6 eb < 0) else decide (0 < I)==decide (G.cq e6 eb < 0) then some (.val (.bool false)) else (bif decide (I=0) then some (.val (.bool true)) else (bif decide (0 < I) then (bif dh ct&&dh c7 then (bif bP eu&&bP dx then (bif bP ev&&bP (us.getD 2 undef) then (bif bif true then !(ar ct==ar c7&&fv) else ar ct==ar c7&&fv then some (.val (.bool false)) else hc) else none) else none) else none) else none))) else none) else none) else none) else none) else (bif qR3 us ab.toNat then (bif qR3 us (Int.toNat (0:Int)) then (bif qR3 us ab.toNat then (bif aL c7 dx (us.getD 2 undef)&&aL ea b7 ch&&(G.ok (ag dx) (ag (us.getD 2 undef))&&G.ok (ag b7) (ag ch)) then (bif bif true then !decide (0 < I)==decide (G.cq e6 ec < 0) else decide (0 < I)==decide (G.cq e6 ec < 0) then some (.val (.bool false)) else (bif decide (I=0) then some (.val (.bool true)) else (bif decide (0 < I) then (bif dh ct&&dh c7 then (bif bP eu&&bP dx then (bif bP ev&&bP (us.getD 2 undef) then (bif bif true then !(ar ct==ar c7&&fv) else ar ct==ar c7&&fv then some (.val (.bool false)) else gn) else none) else none) else none) else none))) else none) else none) else none) else none)) else none) else none) else none) else none) else none) else none) else none) else none) else (bif qR3 ts (Int.toNat (0:Int)) then (bif ah IntKind.i64 aE then (bif decide (0≤(↑n:Int) - 1)&&decide ((↑n:Int) - 1 < (↑n:Int)) then (bif ah IntKind.i64 ab then (bif decide (0≤(↑n2:Int) - 1)&&decide ((↑n2:Int) - 1 < (↑n2:Int)) then (bif qR3 ts aE.toNat then (bif qR3 us ab.toNat then (bif aL dy b5 b6&&aL ea b7 ch&&(G.ok (ag b5) (ag b6)&&G.ok (ag b7) (ag ch)) then (bif decide (G.cq eb ec < 0) then (bif qR3 ts aE.toNat then (bif qR3 ts (Int.toNat (0:Int)) then (bif qR3 ts aE.toNat then (bif aL c4 c5 c6&&aL dy b5 b6&&(G.ok (ag c5) (ag c6)&&G.ok (ag b5) (ag b6)) then (bif bif true then !decide (0 < I)==decide (G.cq e5 eb < 0) else decide (0 < I)==decide (G.cq e5 eb < 0) then some (.val (.bool false)) else (bif decide (I=0) then some (.val (.bool true)) else (bif decide (0 < I) then (bif dh ct&&dh c4 then (bif bP eu&&bP c5 then (bif bP ev&&bP c6 then (bif bif true then !(ar ct==ar c4&&gf) else ar ct==ar c4&&gf then some (.val (.bool false)) else hc) else none) else none) else none) else none))) else none) else none) else none) else none) else (bif qR3 us ab.toNat then (bif qR3 ts (Int.toNat (0:Int)) then (bif qR3 us ab.toNat then (bif aL c4 c5 c6&&aL ea b7 ch&&(G.ok (ag c5) (ag c6)&&G.ok (ag b7) (ag ch)) then (bif bif true then !decide (0 < I)==decide (G.cq e5 ec < 0) else decide (0 < I)==decide (G.cq e5 ec < 0) then some (.val (.bool false)) else (bif decide (I=0) then some (.val (.bool true)) else (bif decide (0 < I) then (bif dh ct&&dh c4 then (bif bP eu&&bP c5 then (bif bP ev&&bP c6 then (bif bif true then !(ar ct==ar c4&&gf) else ar ct==ar c4&&gf then some (.val (.bool false)) else gn) else none) else none) else none) else none))) else none) else none) else none) else none)) else none) else none) else none) else none) else none) else none) else none) else none)) else none) else none) else none) else none) else none) else none)) else none))) else none)) else none)) else none)) else none)):=by kernel_rfl
end
end Go.Proofs.YtamcpiicmfielaaGreat.L
namespace Go.Proofs.YtamcpiicmfielaaGreat.L
open Go Go.V Go.RowKit Go.Proofs.YtamcpiicmfielaaGreat.Sp
open Go.Proofs (Tryz.prog)
noncomputable section
theorem ot:bf Tryz.prog (zZ cY bn bd iH ad):=(((((((aK _).add lp.cG).add VB).add JP).add qI).add xC).add J2).add JU
theorem PI:bf Tryz.prog (z6 cY bn bd dS dp iH ad):=((((((((((((((aK _).add V8.oO).add JY).add J0).add xE.cG).add B9.cG).add xF.cG).add lp.cG).add (Wb Vr)).add VC).add JP).add qI).add xC).add J2).add JU
structure l9 (n:Nat) (ts ps:List Value) (n2:Nat) (us qs:List Value) (xb:Bool) (xn xd:BA):Prop where
 l1:ts.length=n*3
 l2:ps.length=n*6
 l3:us.length=n2*3
 l4:qs.length=n2*6
 o1:dA n ts=true
 o2:dM n ps=true
 o3:dA n2 us=true
 o4:dM n2 qs=true
 g1:¬ kJ n ts n ps=true
 g2:¬ kJ n2 us n2 qs=true
 c1:bb n ts n ps=0
 c2:bb n2 us n2 qs=0
 x1:bd.ok xn xd=true
 x2:ad.ck xb xn xd=0
 gr:bd.gr xn xd=false
section
variable {n : Nat} {ts ps : List Value} {n2 : Nat} {us qs : List Value} {xb : Bool} {xn xd : BA}
theorem l9.small (h:l9 n ts ps n2 us qs xb xn xd):Small n ts n ps∧Small n2 us n2 qs:= ⟨y6 h.o1 h.o2 h.g1,y6 h.o3 h.o4 h.g2⟩
theorem l9.lim (h:l9 n ts ps n2 us qs xb xn xd):n≤10∧n2≤10:=by
 have a:=h.small.1.lim
 have b:=h.small.2.lim
 have c:=(fo h.c1).2.2.1
 have d:=(fo h.c2).2.2.1
 omega
theorem l9.Ll (h:l9 n ts ps n2 us qs xb xn xd):tR n ts n ps n2 us n2 qs:= ⟨rfl,rfl,h.lim.1,h.lim.2,h.small.1.ko,h.c1,h.small.2.ko,h.c2⟩
end
theorem XT (n:Nat) (ts ps:List Value) (n2:Nat) (us qs:List Value) (a:Int) (xb:Bool) (xn xd:BA) (h:l9 n ts ps n2 us qs xb xn xd) (I:¬ bq ts us < aX n ts n2 us):aG Tryz.prog ⟨zZ cY bn bd iH ad,az,aq⟩ 10 10 5 [bO n ts n ps,bO n2 us n2 qs, .val (.int .u8 a),w3 xb xn xd]=some (.val (.bool true)):=by
 obtain ⟨a6,a7⟩:=h.small
 have Z:=iL a6.ko h.c1
 have ab:=iL a7.ko h.c2
 have c0:=h.lim.1
 have ct:=h.lim.2
 have b7:=Z.pos
 have ch:=ab.pos
 have e1:(n:Int) - 1=((n - 1:Nat):Int):=by omega
 have b2:(n2:Int) - 1=((n2 - 1:Nat):Int):=by omega
 have b3:((n:Int) - 1).toNat=n - 1:=by omega
 have b4:((n2:Int) - 1).toNat=n2 - 1:=by omega
 obtain ⟨O,aE⟩:=cg (Z.ts.ok 0 b7)
 obtain ⟨a1,b0⟩:=cg (Z.ts.ok (n - 1) (by omega))
 obtain ⟨c1,c2⟩:=cg (ab.ts.ok 0 ch)
 obtain ⟨d1,b1⟩:=cg (ab.ts.ok (n2 - 1) (by omega))
 simp only [Nat.zero_mul,Nat.zero_add] at O aE c1 c2
 have T:=Lj cY bn bd iH ad n ts n ps n2 us n2 qs a xb xn xd
 rw [dB (vs:=ts) (j:=Int.toNat 0) O,dB (vs:=us) (j:=Int.toNat 0) c1,dB (vs:=ts) (j:=((n:Int) - 1).toNat) (by rw [b3];exact a1),dB (vs:=us) (j:=((n2:Int) - 1).toNat) (by rw [b4];exact d1)] at T
 have bx:cY.go n ts n ps=true:=by show (dA n ts&&dM n ps)=true;rw [h.o1,h.o2];rfl
 have bD:cY.go n2 us n2 qs=true:=by show (dA n2 us&&dM n2 qs)=true;rw [h.o3,h.o4];rfl
 have b5:ad.qv (ar (us.getD 0 undef)) (ag (us.getD 1 undef)) (ag (us.getD 2 undef))=qt us 0:=rfl
 have b6:ad.qv (ar (ts.getD 0 undef)) (ag (ts.getD 1 undef)) (ag (ts.getD 2 undef))=qt ts 0:=rfl
 simp only [e1,b2,Int.toNat_natCast,bj h.l1,bj h.l2,bj h.l3,bj h.l4,c9,bx,bD,b5,b6,mU] at T
 rw [show cY.gt n ts n ps=false from Bool.eq_false_iff.2 h.g1,show bn.ko n ts n ps=true from a6.ko,dT (show bn.ck n ts n ps=0 from h.c1),show cY.gt n2 us n2 qs=false from Bool.eq_false_iff.2 h.g2,show bn.ko n2 us n2 qs=true from a7.ko,dT (show bn.ck n2 us n2 qs=0 from h.c2),h.gr,mz h.x1,dT h.x2,
  show iH.ln n ts n ps n2 us n2 qs=true from @decide_eq_true _ (Classical.propDecidable _) ⟨h.Ll,I⟩,dT (show (0:Int) < (n:Int) by omega),dT (show (0:Int) < (n2:Int) by omega),aJ (z:=((n - 1:Nat):Int)) (by omega),aJ (z:=((n2 - 1:Nat):Int)) (by omega),
  dT (show (0:Int)≤((n - 1:Nat):Int) by omega),dT (show ((n - 1:Nat):Int) < (n:Int) by omega),dT (show (0:Int)≤((n2 - 1:Nat):Int) by omega),dT (show ((n2 - 1:Nat):Int) < (n2:Int) by omega),O,cy aE,a1,cy b0,c1,cy c2,d1,cy b1] at T
 unfold bq aX at I
 by_cases M:qt ts 0 < qt us 0
 ·rw [dT (bo.2 M)] at T
  rw [if_pos M] at I
  by_cases J:qt ts (n - 1) < qt us (n2 - 1)
  ·rw [if_neg (show ¬ qt us (n2 - 1) < qt ts (n - 1) by grind)] at I
   rw [dT (bo.2 J),dF (fun G=>I (bo.1 G))] at T
   exact T
  ·have U:¬ qt us 0 < qt us (n2 - 1):=by split at I <;> grind
   rw [dF (fun G=>J (bo.1 G)),dF (fun G=>U (bo.1 G))] at T
   exact T
 ·rw [dF (fun G=>M (bo.1 G))] at T
  rw [if_neg M] at I
  by_cases J:qt ts (n - 1) < qt us (n2 - 1)
  ·rw [if_neg (show ¬ qt us (n2 - 1) < qt ts (n - 1) by grind)] at I
   rw [dT (bo.2 J),dF (fun G=>I (bo.1 G))] at T
   exact T
  ·have U:¬ qt ts 0 < qt us (n2 - 1):=by split at I <;> grind
   rw [dF (fun G=>J (bo.1 G)),dF (fun G=>U (bo.1 G))] at T
   exact T
end
end Go.Proofs.YtamcpiicmfielaaGreat.L
namespace Go.Proofs.YtamcpiicmfielaaGreat.L
open Go Go.V Go.RowKit Go.Proofs.YtamcpiicmfielaaGreat.Sp
open Go.Proofs (Tryz.prog)
noncomputable section
theorem qw {n:Nat} {ts ps:List Value} (J:bQ n ts n ps=true) (I:bb n ts n ps=0) {q:Rat} (M:bk q≤1000):
  dS.ak n ts n ps (ad.qs q) (ad.qd q)=true∧dS.ae n ts n ps (ad.qn q) (ad.qs q) (ad.qd q)=0∧dS.ax n ts n ps (ad.qn q) (ad.qs q) (ad.qd q)=bG n ts (px ps) q∧dS.ay n ts n ps (ad.qn q) (ad.qs q) (ad.qd q)=bG n ts (py ps) q:=by
 have G:lg n ts n ps (ad.qn q) (ad.qs q) (ad.qd q)=0:=by
  unfold lg
  rw [if_pos ⟨I,SI q⟩]
 refine ⟨?_,G, ?_, ?_⟩
 ·show (bQ n ts n ps&&cH _ _)=true
  rw [J,Zz M];rfl
 ·refine (if_pos G).trans ?_
  rw [dN]
 ·refine (if_pos G).trans ?_
  rw [dN]
theorem Ez {q:Rat} :ad.sq q < 0↔q < 0:=by
 show fL q 0 < 0↔_
 unfold fL
 split
 ·rename_i h;exact ⟨fun _=>h,fun _=>by omega⟩
 ·rename_i h;exact ⟨fun G=>by split at G <;> omega,fun G=>absurd G h⟩
theorem LX {ps:List Value} {j:Nat} (h:c8 ps j=true):bk (px ps j)≤12∧bk (py ps j)≤12:=by
 obtain ⟨_,G,I⟩:=mB h
 exact ⟨nP G,nP I⟩
theorem nX {n:Nat} {ts:List Value} (h:fm n ts) (I:0 < n) {c:Nat→Rat} {x:Rat} (G:∀ j,j < n→bk (c j)≤12) (a6:bk x≤1000):bk (bG n ts c x)≤100000:=by
 have a1:=rU ts x n
 unfold bG
 split
 ·have:=G 0 I;omega
 ·split
  ·have:=G (n - 1) (by omega);omega
  ·rename_i Z ab
   have aE:bF ts x n < n:=by omega
   generalize bF ts x n=j at*
   have J:=G (j - 1) (by omega)
   have M:=G j (by omega)
   have O:=rj (h.ok (j - 1) (by omega))
   have U:=rj (h.ok j (by omega))
   unfold kG
   have a7:=lS x (qt ts (j - 1))
   have bx:=lS (qt ts j) (qt ts (j - 1))
   have bD:=OZ (x - qt ts (j - 1)) (qt ts j - qt ts (j - 1))
   have b0:=lS (c j) (c (j - 1))
   have b1:=r5 (c j - c (j - 1)) ((x - qt ts (j - 1)) / (qt ts j - qt ts (j - 1)))
   have b2:=Fg (c (j - 1)) ((c j - c (j - 1))*((x - qt ts (j - 1)) / (qt ts j - qt ts (j - 1))))
   omega
theorem w4 {n:Nat} {ts ps:List Value} (M:ts.length=n*3) (J:bQ n ts n ps=true) (G:bb n ts n ps=0) {j:Nat} (I:j < n):ts.getD (j*3+0) undef= .bool (ad.qn (qt ts j))∧ts.getD (j*3+1) undef= .string (ad.qs (qt ts j))∧ts.getD (j*3+2) undef= .string (ad.qd (qt ts j)):=
 oJ (show ts=bZ n (qt ts) by rw [qz];exact GF M J G) j I
theorem Q4 (b:Bool):ar (.bool b)=b:=rfl
theorem Q5 (s:BA):ag (.string s)=s:=rfl
theorem W3 (b:Bool):dh (.bool b)=true:=rfl
theorem W4 (s:BA):bP (.string s)=true:=rfl
theorem XL (S:Nat→Rat) (lo hi:Rat) (N:Nat):(e8 S lo hi N).length≤N:=by
 have G:=BY (S:=qt (aV (bp S lo hi N))) (bp S lo hi N).length
 have I:(bp S lo hi N).length=(bz S lo hi N).length:=List.length_mergeSort _
 have J:=xQ S lo hi N
 show (aR (qt (aV (bp S lo hi N))) (bp S lo hi N).length).length≤N
 omega
theorem Lb {n:Nat} {ts ps:List Value} (Z:Small n ts n ps) (ab:bb n ts n ps=0) {x y p:Rat} (O:x < y) (I:qt ts 0≤x) (J:y≤qt ts (n - 1)) (M:∀ i,i < n→¬ (x < qt ts i∧qt ts i < y)) (U:0≤p) (p1:p≤1):
  bG n ts (px ps) (x+p*(y - x))=dp.gG (bG n ts (px ps) x) (bG n ts (px ps) y) p∧bG n ts (py ps) (x+p*(y - x))=dp.gG (bG n ts (py ps) x) (bG n ts (py ps) y) p:=by
 have G:=iL Z.ko ab
 exact ⟨M3 G.ts G.pos O I J M U p1 _,M3 G.ts G.pos O I J M U p1 _⟩
theorem eq3L (v:Rat):(ad.qn v==ad.qn v&&(aF (ad.qs v) (ad.qs v)&&(aF (ad.qd v) (ad.qd v)&&true)))=true:=by
 simp only [beq_self_eq_true,kA,Bool.and_self]
set_option maxHeartbeats 1600000 in
theorem XU (n:Nat) (ts ps:List Value) (n2:Nat) (us qs:List Value) (a:Nat) (ha:a < 256) (xb:Bool) (xn xd:BA) (h:l9 n ts ps n2 us qs xb xn xd) (G:bq ts us < aX n ts n2 us):aG Tryz.prog ⟨z6 cY bn bd dS dp iH ad,az,Bm sU pC aq⟩ 10 10 5 [bO n ts n ps,bO n2 us n2 qs, .val (.int .u8 (a:Int)),w3 xb xn xd]=some (.val (.bool true)):=by
 obtain ⟨a1,a6⟩:=h.small
 have bx:=iL a1.ko h.c1
 have bD:=iL a6.ko h.c2
 have hY:=h.lim.1
 have hX:=h.lim.2
 have b1:=bx.pos
 have b2:=bD.pos
 have e1:(n:Int) - 1=((n - 1:Nat):Int):=by omega
 have e7:(n2:Int) - 1=((n2 - 1:Nat):Int):=by omega
 have fa:((n:Int) - 1).toNat=n - 1:=by omega
 have fc:((n2:Int) - 1).toNat=n2 - 1:=by omega
 obtain ⟨c5,e5⟩:=cg (bx.ts.ok 0 b1)
 obtain ⟨e6,hL⟩:=cg (bx.ts.ok (n - 1) (by omega))
 obtain ⟨c1,c2⟩:=cg (bD.ts.ok 0 b2)
 obtain ⟨d1,hM⟩:=cg (bD.ts.ok (n2 - 1) (by omega))
 simp only [Nat.zero_mul,Nat.zero_add] at c5 e5 c1 c2
 have T:=XQ cY bn bd dS dp iH ad sU pC n ts n ps n2 us n2 qs a xb xn xd
 rw [dB (vs:=ts) (j:=Int.toNat 0) c5,dB (vs:=us) (j:=Int.toNat 0) c1,dB (vs:=ts) (j:=((n:Int) - 1).toNat) (by rw [fa];exact e6),dB (vs:=us) (j:=((n2:Int) - 1).toNat) (by rw [fc];exact d1)] at T
 have e3:cY.go n ts n ps=true:=by show (dA n ts&&dM n ps)=true;rw [h.o1,h.o2];rfl
 have e4:cY.go n2 us n2 qs=true:=by show (dA n2 us&&dM n2 qs)=true;rw [h.o3,h.o4];rfl
 have fs:ad.qv (ar (us.getD 0 undef)) (ag (us.getD 1 undef)) (ag (us.getD 2 undef))=qt us 0:=rfl
 have fv:ad.qv (ar (ts.getD 0 undef)) (ag (ts.getD 1 undef)) (ag (ts.getD 2 undef))=qt ts 0:=rfl
 have ab:=Lg h.l1 a1.ko h.c1 h.l3 a6.ko h.c2 G
 have hN:(bW n ts n2 us).length≤n+n2:=XL _ _ _ _
 have w1:iH.lc n ts n2 us=(bW n ts n2 us).length - 1:=rfl
 have w2:iH.lr n ts n2 us=bY (bW n ts n2 us):=rfl
 simp only [bj h.l1,bj h.l2,bj h.l3,bj h.l4,c9,w1,w2] at T
 generalize bW n ts n2 us=C at*
 have ct:∀ i,i < C.length→bk (C.getD i 0)≤12:=fun i hi=>by
  rcases ab.mem i hi with ⟨j,M,a7⟩ | ⟨j,M,a7⟩
  ·rw [a7];exact a1.sz j M
  ·rw [a7];exact a6.sz j M
 obtain ⟨c,hd⟩:∃ c,C.length=c+1:= ⟨C.length - 1,by have:=ab.two;omega⟩
 have O:=ab.two
 have dx:C.length - 1=c:=by omega
 have b0:(bY C).length=c*6:=by rw [Lf,dx]
 have hc:wD c C:= ⟨by omega,hd,by omega,fun i hi=>ab.up i (i+1) (by omega) (by omega),fun i hi=>by have:=ct i (by omega);omega⟩
 have fh:(c:Int) - 1=((c - 1:Nat):Int):=by omega
 have c6:(a:Int).tmod (c:Int)=((a % c:Nat):Int):=(Int.ofNat_tmod a c).symm
 have hT:a % c < c:=Nat.mod_lt _ (by omega)
 rw [dx] at T
 rw [Uf _ _ _ _ _ _ _ _ _ _ _ _ _ _ _ _ _ _ _ (show uK a false c (ai 6 c (af 6 (bY C))) c (ai 6 c (af 6 (bY C))) c 0 n ts n ps n2 us n2 qs xb xn xd from ⟨rfl,rfl,rfl,rfl,C,bj b0,hc⟩)] at T
 have b3:((a:Int).tmod (c:Int)).toNat=a % c:=by rw [c6];rfl
 obtain ⟨k1,ed,eg,eh,ek,en⟩:=tS (C:=C) (i:=a % c) (by omega)
 rw [Mb (vs:=ai 6 c (af 6 (bY C))) (j:=((a:Int).tmod (c:Int)).toNat) (by rw [bj b0,b3];exact k1) (by rw [bj b0,b3];exact ed) (by rw [bj b0,b3];exact eg) (by rw [bj b0,b3];exact eh) (by rw [bj b0,b3];exact ek) (by rw [bj b0,b3];exact en)] at T
 simp only [e1,e7,fh,c6,Int.toNat_natCast,bj b0,bj h.l1,bj h.l2,bj h.l3,bj h.l4,c9,e3,e4,fs,fv,mU,Wx] at T
 generalize a % c=k at*
 obtain ⟨c0,c3,c4,_,_,_⟩:=tS (C:=C) (i:=0) (by omega)
 obtain ⟨_,_,_,eo,ep,et⟩:=tS (C:=C) (i:=c - 1) (by omega)
 have dy:=ab.lst
 rw [show C.length - 1=c by omega] at dy
 rw [show c - 1+1=c by omega,dy] at eo ep et
 rw [ab.fst] at c0 c3 c4
 obtain ⟨eu,ev,ez⟩:=w4 h.l1 a1.ko h.c1 (j:=0) b1
 obtain ⟨hE,hF,hG⟩:=w4 h.l1 a1.ko h.c1 (j:=n - 1) (by omega)
 obtain ⟨eN,v2,e2⟩:=w4 h.l3 a6.ko h.c2 (j:=0) b2
 obtain ⟨hI,hJ,hK⟩:=w4 h.l3 a6.ko h.c2 (j:=n2 - 1) (by omega)
 simp only [Nat.zero_mul,Nat.zero_add] at c0 c3 c4 eu ev ez eN v2 e2
 have h2:bk (ad.qv xb xn xd)≤12:=nP h.x1
 have hf:dp.dd xn xd=true:=by
  obtain ⟨q1,q2⟩:=pd h.x1
  show (decide _&&decide _)=true
  rw [decide_eq_true (show xn.size≤100000 by omega),decide_eq_true (show xd.size≤100000 by omega)];rfl
 simp only [c0,c3,c4,eo,ep,et,eu,ev,ez,hE,hF,hG,eN,v2,e2,hI,hJ,hK,k1,ed,eg,eh,ek,en,W3,W4,Q4,Q5,tO,dN] at T
 generalize ad.qv xb xn xd=x at*
 have z1:=a1.sz 0 b1
 have z2:=a1.sz (n - 1) (by omega)
 have z3:=a6.sz 0 b2
 have z4:=a6.sz (n2 - 1) (by omega)
 have h3:=ct k (by omega)
 have h4:=ct (k+1) (by omega)
 have h5:=lS (C.getD (k+1) 0) (C.getD k 0)
 have h6:=r5 x (C.getD (k+1) 0 - C.getD k 0)
 have h7:=Fg (C.getD k 0) (x*(C.getD (k+1) 0 - C.getD k 0))
 have h0:bk ((1:Int):Rat)≤2:=acW (by decide)
 obtain ⟨p1,p2,p3,p4⟩:=qw a1.ko h.c1 (q:=C.getD k 0) (by omega)
 obtain ⟨p5,hl,hn,ho⟩:=qw a1.ko h.c1 (q:=C.getD (k+1) 0) (by omega)
 obtain ⟨hq,hg,hh,hj⟩:=qw a1.ko h.c1 (q:=C.getD k 0+x*(C.getD (k+1) 0 - C.getD k 0)) (by omega)
 obtain ⟨q1,q2,hv,hx⟩:=qw a6.ko h.c2 (q:=C.getD k 0) (by omega)
 obtain ⟨hy,hz,hA,hB⟩:=qw a6.ko h.c2 (q:=C.getD (k+1) 0) (by omega)
 obtain ⟨hD,hr,hs,ht⟩:=qw a6.ko h.c2 (q:=C.getD k 0+x*(C.getD (k+1) 0 - C.getD k 0)) (by omega)
 have b6:=fun j (M:j < n)=>LX (bx.lN j M)
 have b7:=fun j (M:j < n2)=>LX (bD.lN j M)
 rw [dT hl,dT hg,dT p2,dT hz,dT hr,dT q2] at T
 simp only [p1,p3,p4,p5,hn,ho,hq,hh,hj,q1,hv,hx,hy,hA,hB,hD,hs,ht,dN,hf,
  mC (nX bx.ts b1 (c:=px ps) (x:=C.getD k 0) (fun j M=>(b6 j M).1) (by omega)),mC (nX bx.ts b1 (c:=py ps) (x:=C.getD k 0) (fun j M=>(b6 j M).2) (by omega)),
  mC (nX bx.ts b1 (c:=px ps) (x:=C.getD (k+1) 0) (fun j M=>(b6 j M).1) (by omega)),mC (nX bx.ts b1 (c:=py ps) (x:=C.getD (k+1) 0) (fun j M=>(b6 j M).2) (by omega)),
  mC (nX bD.ts b2 (c:=px qs) (x:=C.getD k 0) (fun j M=>(b7 j M).1) (by omega)),mC (nX bD.ts b2 (c:=py qs) (x:=C.getD k 0) (fun j M=>(b7 j M).2) (by omega)),
  mC (nX bD.ts b2 (c:=px qs) (x:=C.getD (k+1) 0) (fun j M=>(b7 j M).1) (by omega)),mC (nX bD.ts b2 (c:=py qs) (x:=C.getD (k+1) 0) (fun j M=>(b7 j M).2) (by omega))] at T
 rw [show cY.gt n ts n ps=false from Bool.eq_false_iff.2 h.g1,show bn.ko n ts n ps=true from a1.ko,dT (show bn.ck n ts n ps=0 from h.c1),show cY.gt n2 us n2 qs=false from Bool.eq_false_iff.2 h.g2,show bn.ko n2 us n2 qs=true from a6.ko,dT (show bn.ck n2 us n2 qs=0 from h.c2),h.gr,mz h.x1,dT h.x2,
  show iH.lo n ts n ps n2 us n2 qs=true from @decide_eq_true _ (Classical.propDecidable _) ⟨h.Ll,G⟩,dT (show (0:Int) < (n:Int) by omega),dT (show (0:Int) < (n2:Int) by omega),aJ (z:=((n - 1:Nat):Int)) (by omega),aJ (z:=((n2 - 1:Nat):Int)) (by omega),aJ (z:=((c - 1:Nat):Int)) (by omega),aJ (z:=(a:Int)) (by omega),
  dT (show (0:Int)≤((n - 1:Nat):Int) by omega),dT (show ((n - 1:Nat):Int) < (n:Int) by omega),dT (show (0:Int)≤((n2 - 1:Nat):Int) by omega),dT (show ((n2 - 1:Nat):Int) < (n2:Int) by omega),dT (show (0:Int)≤((c - 1:Nat):Int) by omega),dT (show ((c - 1:Nat):Int) < (c:Int) by omega),dT (show (0:Int)≤(k:Int) by omega),dT (show (k:Int) < (c:Int) by omega),dT (show (0:Int) < (c:Int) by omega),dF (show ¬ (c:Int)=0 by omega),
  cM (q:=qt ts 0) (by omega),cM (q:=qt us 0) (by omega),cM (q:=qt ts (n - 1)) (by omega),cM (q:=qt us (n2 - 1)) (by omega),cM (q:=C.getD k 0) (by omega),cM (q:=C.getD (k+1) 0) (by omega),cM (q:=C.getD (k+1) 0 - C.getD k 0) (by omega),cM (q:=x*(C.getD (k+1) 0 - C.getD k 0)) (by omega),cM (q:=((1:Int):Rat)) (by omega)] at T
 have hU:qt ts 0≤bq ts us:=by unfold bq;split <;> grind
 have hV:qt us 0≤bq ts us:=by unfold bq;split <;> grind
 have hR:aX n ts n2 us≤qt ts (n - 1):=by unfold aX;split <;> grind
 have hS:aX n ts n2 us≤qt us (n2 - 1):=by unfold aX;split <;> grind
 have hP:=(ab.LQ k (by omega)).1
 have hQ:=(ab.LQ (k+1) (by omega)).2
 have ea:=ab.up k (k+1) (by omega) (by omega)
 have c7:∀ aE,aE < C.length→¬ (C.getD k 0 < C.getD aE 0∧C.getD aE 0 < C.getD (k+1) 0):=fun aE b5 ⟨b4,m2⟩=>by
  by_cases hW:aE≤k
  ·by_cases a7:aE=k
   ·subst a7;grind
   ·have:=ab.up aE k (by omega) (by omega)
    grind
  ·by_cases a7:aE=k+1
   ·subst a7;grind
   ·have:=ab.up (k+1) aE (by omega) b5
    grind
 by_cases ch:x < 0
 case neg=>
  by_cases eb:((1:Int):Rat) < x
  case neg=>
   have ec:x≤1:=by have:((1:Int):Rat)=1:=rfl;grind
   obtain ⟨g1,g2⟩:=Lb a1 h.c1 (x:=C.getD k 0) (y:=C.getD (k+1) 0) (p:=x) ea (by grind) (by grind) (fun i hi ⟨b4,m2⟩=>by
    obtain ⟨aE,b5,a7⟩:=ab.QU i hi (by grind) (by grind)
    rw [← a7] at b4 m2
    exact c7 aE b5 ⟨b4,m2⟩) (by grind) ec
   obtain ⟨gf,gn⟩:=Lb a6 h.c2 (x:=C.getD k 0) (y:=C.getD (k+1) 0) (p:=x) ea (by grind) (by grind) (fun i hi ⟨b4,m2⟩=>by
    obtain ⟨aE,b5,a7⟩:=ab.QV i hi (by grind) (by grind)
    rw [← a7] at b4 m2
    exact c7 aE b5 ⟨b4,m2⟩) (by grind) ec
   rw [dF (fun I=>ch (Ez.1 I)),dF (fun I=>eb (nD.1 I)),g1,g2,gf,gn] at T
   simp only [ZM] at T
   by_cases Z:qt ts 0 < qt us 0
   ·have U:bq ts us=qt us 0:=if_pos Z
    rw [dT (bo.2 Z)] at T
    by_cases O:qt ts (n - 1) < qt us (n2 - 1)
    ·have J:aX n ts n2 us=qt ts (n - 1):=if_neg (by grind)
     rw [U,J] at G T
     rw [dT (bo.2 O),dT (bo.2 G),eq3L,eq3L] at T
     exact T
    ·have J:aX n ts n2 us=qt us (n2 - 1):=by unfold aX;split <;> grind
     rw [U,J] at G T
     rw [dF (fun I=>O (bo.1 I)),dT (bo.2 G),eq3L,eq3L] at T
     exact T
   ·have U:bq ts us=qt ts 0:=if_neg Z
    rw [dF (fun I=>Z (bo.1 I))] at T
    by_cases O:qt ts (n - 1) < qt us (n2 - 1)
    ·have J:aX n ts n2 us=qt ts (n - 1):=if_neg (by grind)
     rw [U,J] at G T
     rw [dT (bo.2 O),dT (bo.2 G),eq3L,eq3L] at T
     exact T
    ·have J:aX n ts n2 us=qt us (n2 - 1):=by unfold aX;split <;> grind
     rw [U,J] at G T
     rw [dF (fun I=>O (bo.1 I)),dT (bo.2 G),eq3L,eq3L] at T
     exact T
  case pos=>
   rw [dF (fun I=>ch (Ez.1 I)),dT (nD.2 eb)] at T
   by_cases Z:qt ts 0 < qt us 0
   ·have U:bq ts us=qt us 0:=if_pos Z
    rw [dT (bo.2 Z)] at T
    by_cases O:qt ts (n - 1) < qt us (n2 - 1)
    ·have J:aX n ts n2 us=qt ts (n - 1):=if_neg (by grind)
     rw [U,J] at G T
     rw [dT (bo.2 O),dT (bo.2 G),eq3L,eq3L] at T
     exact T
    ·have J:aX n ts n2 us=qt us (n2 - 1):=by unfold aX;split <;> grind
     rw [U,J] at G T
     rw [dF (fun I=>O (bo.1 I)),dT (bo.2 G),eq3L,eq3L] at T
     exact T
   ·have U:bq ts us=qt ts 0:=if_neg Z
    rw [dF (fun I=>Z (bo.1 I))] at T
    by_cases O:qt ts (n - 1) < qt us (n2 - 1)
    ·have J:aX n ts n2 us=qt ts (n - 1):=if_neg (by grind)
     rw [U,J] at G T
     rw [dT (bo.2 O),dT (bo.2 G),eq3L,eq3L] at T
     exact T
    ·have J:aX n ts n2 us=qt us (n2 - 1):=by unfold aX;split <;> grind
     rw [U,J] at G T
     rw [dF (fun I=>O (bo.1 I)),dT (bo.2 G),eq3L,eq3L] at T
     exact T
 case pos=>
  rw [dT (Ez.2 ch)] at T
  by_cases Z:qt ts 0 < qt us 0
  ·have U:bq ts us=qt us 0:=if_pos Z
   rw [dT (bo.2 Z)] at T
   by_cases O:qt ts (n - 1) < qt us (n2 - 1)
   ·have J:aX n ts n2 us=qt ts (n - 1):=if_neg (by grind)
    rw [U,J] at G T
    rw [dT (bo.2 O),dT (bo.2 G),eq3L,eq3L] at T
    exact T
   ·have J:aX n ts n2 us=qt us (n2 - 1):=by unfold aX;split <;> grind
    rw [U,J] at G T
    rw [dF (fun I=>O (bo.1 I)),dT (bo.2 G),eq3L,eq3L] at T
    exact T
  ·have U:bq ts us=qt ts 0:=if_neg Z
   rw [dF (fun I=>Z (bo.1 I))] at T
   by_cases O:qt ts (n - 1) < qt us (n2 - 1)
   ·have J:aX n ts n2 us=qt ts (n - 1):=if_neg (by grind)
    rw [U,J] at G T
    rw [dT (bo.2 O),dT (bo.2 G),eq3L,eq3L] at T
    exact T
   ·have J:aX n ts n2 us=qt us (n2 - 1):=by unfold aX;split <;> grind
    rw [U,J] at G T
    rw [dF (fun I=>O (bo.1 I)),dT (bo.2 G),eq3L,eq3L] at T
    exact T
end
end Go.Proofs.YtamcpiicmfielaaGreat.L
namespace Go.Proofs.YtamcpiicmfielaaGreat.L
open Go Go.V Go.RowKit Go.Proofs.YtamcpiicmfielaaGreat.Sp
open Go.Proofs (Tryz.prog)
noncomputable section
theorem XR (n:Nat) (ts:List Value) (m:Nat) (ps:List Value) (l1:ts.length=n*3) (o1:dA n ts=true) (l2:ps.length=m*6) (o2:dM m ps=true) (n2:Nat) (us:List Value) (m2:Nat) (qs:List Value) (l3:us.length=n2*3) (o3:dA n2 us=true) (l4:qs.length=m2*6) (o4:dM m2 qs=true) (a:Nat) (ha:a < 256) (xb:Bool) (xn xd:BA):
  ∃ E:Env,bf Tryz.prog E.C∧dg Tryz.prog E∧aG Tryz.prog E 10 10 5 [bO n ts m ps,bO n2 us m2 qs, .val (.int .u8 (a:Int)),w3 xb xn xd]=some (.val (.bool true)):=by
 have T:=Lj cY bn bd iH ad n ts m ps n2 us m2 qs a xb xn xd
 have aE:cY.go n ts m ps=true:=by show (dA n ts&&dM m ps)=true;rw [o1,o2];rfl
 have a1:cY.go n2 us m2 qs=true:=by show (dA n2 us&&dM m2 qs)=true;rw [o3,o4];rfl
 simp only [bj l1,bj l2,bj l3,bj l4,c9,aE,a1] at T
 by_cases J:kJ n ts m ps=true
 ·rw [show cY.gt n ts m ps=true from J] at T;exact ⟨_,ot,aO,T⟩
 have a6:=y6 o1 o2 J
 rw [show cY.gt n ts m ps=false from Bool.eq_false_iff.2 J,show bn.ko n ts m ps=true from a6.ko] at T
 by_cases G:bb n ts m ps=0
 case neg=>rw [dF (show ¬ bn.ck n ts m ps=0 from G)] at T;exact ⟨_,ot,aO,T⟩
 rw [dT (show bn.ck n ts m ps=0 from G)] at T
 by_cases M:kJ n2 us m2 qs=true
 ·rw [show cY.gt n2 us m2 qs=true from M] at T;exact ⟨_,ot,aO,T⟩
 have a7:=y6 o3 o4 M
 rw [show cY.gt n2 us m2 qs=false from Bool.eq_false_iff.2 M,show bn.ko n2 us m2 qs=true from a7.ko] at T
 by_cases I:bb n2 us m2 qs=0
 case neg=>rw [dF (show ¬ bn.ck n2 us m2 qs=0 from I)] at T;exact ⟨_,ot,aO,T⟩
 rw [dT (show bn.ck n2 us m2 qs=0 from I)] at T
 by_cases O:bd.gr xn xd=true
 ·rw [O] at T;exact ⟨_,ot,aO,T⟩
 have Z:=xT (Bool.eq_false_iff.2 O)
 rw [Bool.eq_false_iff.2 O,mz Z] at T
 by_cases ab:ad.ck xb xn xd=0
 case neg=>rw [dF ab] at T;exact ⟨_,ot,aO,T⟩
 clear T
 obtain ⟨rfl,b0,bx,_⟩:=fo G
 obtain ⟨rfl,b1,bD,_⟩:=fo I
 have h:l9 n ts ps n2 us qs xb xn xd:= ⟨l1,l2,l3,l4,o1,o2,o3,o4,J,M,G,I,Z,ab,Bool.eq_false_iff.2 O⟩
 by_cases U:bq ts us < aX n ts n2 us
 ·exact ⟨_,PI,(Qo aC.none).ok,XU n ts ps n2 us qs a ha xb xn xd h U⟩
 ·exact ⟨_,ot,aO,XT n ts ps n2 us qs a xb xn xd h U⟩
theorem ad1 {z:Int} (h:(Lit.int .u8 z).wf=true):∃ a:Nat,a < 256∧z=(a:Int):=by
 have G:0≤z∧z < 256:=by
  simp [Lit.wf,IntKind.min,IntKind.max,IntKind.signed,IntKind.bits] at h
  omega
 exact ⟨z.toNat,by omega,by omega⟩
theorem XS (n:Nat) (ts:List Value) (m:Nat) (ps:List Value) (l1:ts.length=n*3) (o1:dA n ts=true) (l2:ps.length=m*6) (o2:dM m ps=true) (n2:Nat) (us:List Value) (m2:Nat) (qs:List Value) (l3:us.length=n2*3) (o3:dA n2 us=true) (l4:qs.length=m2*6) (o4:dM m2 qs=true) (z:Int) (O:(Lit.int .u8 z).wf=true) (xb:Bool) (xn xd:BA) (W:World) (v:Value) (M:(bO n ts m ps).Rel Tryz.prog cp (fun _=>False) W bc v) (u:Value) (J:(bO n2 us m2 qs).Rel Tryz.prog cp (fun _=>False) W bc u):Calls Tryz.prog 5 #[v,u, .int .u8 z, .agg #[.bool xb, .string xn, .string xd]] W fun e w'=>e= .returned (.bool true)∧Below W.heap.size W w':=by
 obtain ⟨a,ha,rfl⟩:=ad1 O
 obtain ⟨E,G,I,h⟩:=XR n ts m ps l1 o1 l2 o2 n2 us m2 qs l3 o3 l4 o4 a ha xb xn xd
 exact Xn G I (by kernel_rfl) h W ⟨_,_,rfl,M,_,_,rfl,J,_,_,rfl,rfl,_,_,rfl,Bv _ _ xb xn xd,rfl⟩
end
end Go.Proofs.YtamcpiicmfielaaGreat.L
