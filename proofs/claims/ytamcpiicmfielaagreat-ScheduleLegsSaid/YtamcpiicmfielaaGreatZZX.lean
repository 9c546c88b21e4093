import Derived.Test.YtamcpiicmfielaaGreatZJA
import Derived.Test.YtamcpiicmfielaaGreatZHW
import Derived.Test.YtamcpiicmfielaaGreatZJB
set_option linter.unusedVariables false
set_option linter.unusedSimpArgs false
namespace Go.Proofs.YtamcpiicmfielaaGreat.L
open Go Go.V Go.RowKit Go.Proofs.YtamcpiicmfielaaGreat.Sp
open Go.Proofs (Tryz.prog)
noncomputable section
def qm (G:Qg):Env:= ⟨au 23 (cG (nj G)) aM,az,aq⟩
abbrev mE:List Bool:= [false,true,false,true,true,true,true,true,true]
def iT (k N:Nat) (n i:Int) (w1 w2 w3 z1 z2 z3:Value) (us cs:List Value):List AV:=ao 108 [(6, .ptr 0 0),(7, .ptr 1 0),(9, .sl false 27 2 0 k),(63, .sl false 27 3 0 N),(64, .val (.int .i64 n)),(65, .val (.int .i64 i))]
def iu (k N:Nat) (n i:Int) (w1 w2 w3 z1 z2 z3:Value) (us cs:List Value):Hp:= [.row (.cells [.val w1,.val w2,.val w3]) 27 .live, .row (.cells [.val z1,.val z2,.val z3]) 27 .live, .row (.vals us) 27 .live, .row (.vals cs) 27 .live]
theorem Tf:aI Tryz.prog 24 (false :: mE)=some (lb 24 mE):=by kernel_rfl
theorem Np (G:Qg) (k N:Nat) (n i:Int) (w1 w2 w3 z1 z2 z3:Value) (us cs:List Value):letI I:=(cs.getD (0+i.toNat*3+1+1) undef);letI J:=(cs.getD (0+i.toNat*3+1) undef);letI O:Option (Ex×List AV×Hp):=(bif ah IntKind.i64 (i+1) then some (.normal,ao 108 [(6,(.ptr 0 0)),(7,(.ptr 1 0)),(9,(.sl false 27 2 0 k)),(63,(.sl false 27 3 0 N)),(64,(.val (.int .i64 n))),(65,(.val (.int .i64 (i+1))))], [(.row (.cells [(.val (w1)),(.val (w2)),(.val (w3))]) 27 .live),(.row (.cells [(.val (z1)),(.val (z2)),(.val (z3))]) 27 .live),(.row (.vals us) 27 .live),(.row (.vals cs) 27 .live)]) else none);letI M:=(cs.getD (0+i.toNat*3) undef);
  (aP Tryz.prog (qm G) 24 [6,7,9,63,64,65] (lb 24 mE) (false :: mE) (iT k N n i w1 w2 w3 z1 z2 z3 us cs) (iu k N n i w1 w2 w3 z1 z2 z3 us cs)=(bif decide (i < n) then (bif decide (0≤i)&&decide (i < (↑N:Int)) then (bif decide (0+i.toNat*3 < cs.length) then (bif decide (0+i.toNat*3+1 < cs.length) then (bif decide (0+i.toNat*3+1+1 < cs.length) then (bif [AV.val M,AV.val J,AV.val I].all aS then (bif aL w1 w2 w3&&aL M J I&&(G.ok (ag w2) (ag w3)&&G.ok (ag J) (ag I)) then (bif decide (G.cq (G.qv (ar w1) (ag w2) (ag w3)) (G.qv (ar M) (ag J) (ag I))≤0) then (bif aL M J I&&aL z1 z2 z3&&(G.ok (ag J) (ag I)&&G.ok (ag z2) (ag z3)) then (bif decide (G.cq (G.qv (ar M) (ag J) (ag I)) (G.qv (ar z1) (ag z2) (ag z3))≤0) then (bif [AV.val M,AV.val J,AV.val I].all aS then (bif decide (k*3≤(an.vals us).len)&&aQ Tryz.prog (k+1) 27&&((mG (intKind Tryz.prog 27) [AV.val M,AV.val J,AV.val I]).sub 0 3).bJ then (bif ah IntKind.i64 (i+1) then some (.normal,ao 108 [(6,(.ptr 0 0)),(7,(.ptr 1 0)),(9,(.sl false 27 2 0 (k+1))),(63,(.sl false 27 3 0 N)),(64,(.val (.int .i64 n))),(65,(.val (.int .i64 (i+1))))], [(.row (.cells [(.val (w1)),(.val (w2)),(.val (w3))]) 27 .live),(.row (.cells [(.val (z1)),(.val (z2)),(.val (z3))]) 27 .live),(.row (.vals ((List.take (k*3) us) ++ ([M,J,I]:List Value))) 27 .live),(.row (.vals cs) 27 .live)]) else none) else none) else none) else O) else none) else O) else none) else none) else none) else none) else none) else none) else some ((.exit 0),ao 108 [(6,(.ptr 0 0)),(7,(.ptr 1 0)),(9,(.sl false 27 2 0 k)),(63,(.sl false 27 3 0 N)),(64,(.val (.int .i64 n))),(65,(.val (.int .i64 i)))], [(.row (.cells [(.val (w1)),(.val (w2)),(.val (w3))]) 27 .live),(.row (.cells [(.val (z1)),(.val (z2)),(.val (z3))]) 27 .live),(.row (.vals us) 27 .live),(.row (.vals cs) 27 .live)]))):=by kernel_rfl
theorem zd {k N:Nat} {n i:Int} {w1 w2 w3 z1 z2 z3:Value} {us cs:List Value} {e:Ex} {T:List AV} {H:Hp} (h:aP Tryz.prog (qm ad) 24 [6,7,9,63,64,65] (lb 24 mE) (false :: mE) (iT k N n i w1 w2 w3 z1 z2 z3 us cs) (iu k N n i w1 w2 w3 z1 z2 z3 us cs)=some (e,T,H)):V.Ends Tryz.prog false 0 0 (lb 24 mE) (iT k N n i w1 w2 w3 z1 z2 z3 us cs) (iu k N n i w1 w2 w3 z1 z2 z3 us cs) e T H:=
 bK ((aK _).add lp.cG) aO mixed Tf h
theorem mi {a b:Rat} :ad.cq a b≤0↔a≤b:=by
 show fL a b≤0↔_
 unfold fL
 split
 ·rename_i h;exact ⟨fun _=>by grind,fun _=>by omega⟩
 ·split
  ·rename_i G I;exact ⟨fun h=>by omega,fun h=>by grind⟩
  ·rename_i G I;exact ⟨fun _=>by grind,fun _=>by omega⟩
theorem Jo (x:Rat):aV [x]=iO x:=List.append_nil _
def bz (S:Nat→Rat) (lo hi:Rat):Nat→List Rat
 | 0=> []
 | j+1=>if lo≤S j∧S j≤hi then bz S lo hi j ++ [S j] else bz S lo hi j
theorem xQ (S:Nat→Rat) (lo hi:Rat):∀ j,(bz S lo hi j).length≤j
 | 0=>Nat.le_refl _
 | j+1=>by
  have:=xQ S lo hi j
  unfold bz
  split
  ·rw [List.length_append];show _+1≤_;omega
  ·omega
def rv (x y z:Value):Rat:=ad.qv (ar x) (ag y) (ag z)
structure ib (N:Nat) (cs:List Value) (w1 w2 w3 z1 z2 z3:Value):Prop where
 lim:N≤1000
 can:cs=bZ N (qt cs)
 sz:∀ j,j < N→bk (qt cs j)≤1000
 wr:aL w1 w2 w3=true
 lo:cH (ag w2) (ag w3)=true
 zr:aL z1 z2 z3=true
 hi:cH (ag z2) (ag z3)=true
theorem ug (b:Bool) (s d:BA): [AV.val (.bool b), .val (.string s), .val (.string d)].all aS=true:=rfl
theorem ZH (b:Bool) (s d:BA):((mG (intKind Tryz.prog 27) [AV.val (.bool b), .val (.string s), .val (.string d)]).sub 0 3).bJ=true:=by kernel_rfl
section
variable {N : Nat} {w1 w2 w3 z1 z2 z3 : Value} {us cs : List Value}
theorem XP (h:ib N cs w1 w2 w3 z1 z2 z3) (j:Nat) (O:j < N) (l:List Rat) (a6:l.length≤j):V.Ends Tryz.prog false 0 0 (lb 24 mE) (iT l.length N N j w1 w2 w3 z1 z2 z3 (aV l) cs) (iu l.length N N j w1 w2 w3 z1 z2 z3 (aV l) cs) .normal
  (iT (if rv w1 w2 w3≤qt cs j∧qt cs j≤rv z1 z2 z3 then l ++ [qt cs j] else l).length N N ((j+1:Nat):Int) w1 w2 w3 z1 z2 z3 (aV (if rv w1 w2 w3≤qt cs j∧qt cs j≤rv z1 z2 z3 then l ++ [qt cs j] else l)) cs)
  (iu (if rv w1 w2 w3≤qt cs j∧qt cs j≤rv z1 z2 z3 then l ++ [qt cs j] else l).length N N ((j+1:Nat):Int) w1 w2 w3 z1 z2 z3 (aV (if rv w1 w2 w3≤qt cs j∧qt cs j≤rv z1 z2 z3 then l ++ [qt cs j] else l)) cs):=by
 have a7:=h.lim
 have a1:cs.length=N*3:=by rw [h.can,ll]
 have bx:=h.sz j O
 obtain ⟨U,Z,ab⟩:=oJ h.can j O
 have G:=Np ad l.length N N j w1 w2 w3 z1 z2 z3 (aV l) cs
 have e0:(an.vals (aV l)).len=l.length*3:=BN l
 have aE:List.take (l.length*3) (aV l)=aV l:=List.take_of_length_le (Nat.le_of_eq (BN l))
 simp only [Int.toNat_natCast,Nat.zero_add,U,Z,ab,e0,aE,Nat.le_refl,decide_true,Bool.true_and,ug,ZH,tO] at G
 rw [dT (show (j:Int) < (N:Int) by omega),dT (show (0:Int)≤(j:Int) by omega),dT (show j*3 < cs.length by omega),dT (show j*3+1 < cs.length by omega),dT (show j*3+1+1 < cs.length by omega),aJ (z:=(j:Int)+1) (by omega),h.wr,h.zr,cy h.lo,cy h.hi,pE (m:=l.length+1) (by omega),
  show ad.ok (ag (.string (ad.qs (qt cs j)))) (ag (.string (ad.qd (qt cs j))))=true from cM (by omega),show ad.qv (ar (.bool (ad.qn (qt cs j)))) (ag (.string (ad.qs (qt cs j)))) (ag (.string (ad.qd (qt cs j))))=qt cs j from dN _,show ad.qv (ar w1) (ag w2) (ag w3)=rv w1 w2 w3 from rfl,show ad.qv (ar z1) (ag z2) (ag z3)=rv z1 z2 z3 from rfl] at G
 by_cases J:rv w1 w2 w3≤qt cs j
 ·rw [dT (mi.2 J)] at G
  by_cases M:qt cs j≤rv z1 z2 z3
  ·rw [dT (mi.2 M)] at G
   rw [if_pos ⟨J,M⟩,BM,Jo,List.length_append]
   exact zd G
  ·rw [dF (fun I=>M (mi.1 I))] at G
   rw [if_neg (fun I=>M I.2)]
   exact zd G
 ·rw [dF (fun I=>J (mi.1 I))] at G
  rw [if_neg (fun I=>J I.1)]
  exact zd G
theorem XN (h:ib N cs w1 w2 w3 z1 z2 z3) (k:Nat):∀ j:Nat,N=j+k→aA Tryz.prog (lb 24 mE) (iT (bz (qt cs) (rv w1 w2 w3) (rv z1 z2 z3) j).length N N j w1 w2 w3 z1 z2 z3 (aV (bz (qt cs) (rv w1 w2 w3) (rv z1 z2 z3) j)) cs) (iu (bz (qt cs) (rv w1 w2 w3) (rv z1 z2 z3) j).length N N j w1 w2 w3 z1 z2 z3 (aV (bz (qt cs) (rv w1 w2 w3) (rv z1 z2 z3) j)) cs) (.exit 0) (iT (bz (qt cs) (rv w1 w2 w3) (rv z1 z2 z3) N).length N N N w1 w2 w3 z1 z2 z3 (aV (bz (qt cs) (rv w1 w2 w3) (rv z1 z2 z3) N)) cs) (iu (bz (qt cs) (rv w1 w2 w3) (rv z1 z2 z3) N).length N N N w1 w2 w3 z1 z2 z3 (aV (bz (qt cs) (rv w1 w2 w3) (rv z1 z2 z3) N)) cs):=by
 induction k with
 | zero=>
  intro j G
  have:N=j:=by omega
  subst this
  refine .last (zd ?_) (by intro h;cases h)
  rw [Np,dF (show ¬ (N:Int) < (N:Int) by omega)]
  rfl
 | succ k I=>
  intro j G
  exact .more (XP h j (by omega) _ (xQ _ _ _ j)) (I (j+1) (by omega))
end
abbrev eH:List Bool:= [false,true,false,true,true,true,true,true,true]
def j7 (N:Nat) (n i:Int) (w1 w2 w3 z1 z2 z3:Value) (cs:List Value):List AV:=ao 108 [(6, .ptr 0 0),(7, .ptr 1 0),(9, .val (.slice none 0 0)),(63, .sl false 27 2 0 N),(64, .val (.int .i64 n)),(65, .val (.int .i64 i))]
def jv (N:Nat) (n i:Int) (w1 w2 w3 z1 z2 z3:Value) (cs:List Value):Hp:= [.row (.cells [.val w1,.val w2,.val w3]) 27 .live, .row (.cells [.val z1,.val z2,.val z3]) 27 .live, .row (.vals cs) 27 .live]
theorem Rx:aI Tryz.prog 24 eH=some (.loop (lb 24 eH)):=by kernel_rfl
theorem Te:aI Tryz.prog 24 (false :: eH)=some (lb 24 eH):=by kernel_rfl
theorem Eh (G:Qg) (N:Nat) (n i:Int) (w1 w2 w3 z1 z2 z3:Value) (cs:List Value):letI I:=(cs.getD (0+i.toNat*3+1+1) undef);letI J:=(cs.getD (0+i.toNat*3+1) undef);letI O:Option (Ex×List AV×Hp):=(bif ah IntKind.i64 (i+1) then some (.normal,ao 108 [(6,(.ptr 0 0)),(7,(.ptr 1 0)),(9,(.val (.slice .none 0 0))),(63,(.sl false 27 2 0 N)),(64,(.val (.int .i64 n))),(65,(.val (.int .i64 (i+1))))], [(.row (.cells [(.val (w1)),(.val (w2)),(.val (w3))]) 27 .live),(.row (.cells [(.val (z1)),(.val (z2)),(.val (z3))]) 27 .live),(.row (.vals cs) 27 .live)]) else none);letI M:=(cs.getD (0+i.toNat*3) undef);
  (aP Tryz.prog (qm G) 24 [6,7,9,63,64,65] (lb 24 eH) (false :: eH) (j7 N n i w1 w2 w3 z1 z2 z3 cs) (jv N n i w1 w2 w3 z1 z2 z3 cs)=(bif decide (i < n) then (bif decide (0≤i)&&decide (i < (↑N:Int)) then (bif decide (0+i.toNat*3 < cs.length) then (bif decide (0+i.toNat*3+1 < cs.length) then (bif decide (0+i.toNat*3+1+1 < cs.length) then (bif [AV.val M,AV.val J,AV.val I].all aS then (bif aL w1 w2 w3&&aL M J I&&(G.ok (ag w2) (ag w3)&&G.ok (ag J) (ag I)) then (bif decide (G.cq (G.qv (ar w1) (ag w2) (ag w3)) (G.qv (ar M) (ag J) (ag I))≤0) then (bif aL M J I&&aL z1 z2 z3&&(G.ok (ag J) (ag I)&&G.ok (ag z2) (ag z3)) then (bif decide (G.cq (G.qv (ar M) (ag J) (ag I)) (G.qv (ar z1) (ag z2) (ag z3))≤0) then (bif [AV.val M,AV.val J,AV.val I].all aS then (bif ah IntKind.i64 (i+1) then some (.normal,ao 108 [(6,(.ptr 0 0)),(7,(.ptr 1 0)),(9,(.sl false 27 2 0 1)),(63,(.sl false 27 3 0 N)),(64,(.val (.int .i64 n))),(65,(.val (.int .i64 (i+1))))], [(.row (.cells [(.val (w1)),(.val (w2)),(.val (w3))]) 27 .live),(.row (.cells [(.val (z1)),(.val (z2)),(.val (z3))]) 27 .live),(.row (.cells [(.val M),(.val J),(.val I)]) 27 .live),(.row (.vals cs) 27 .live)]) else none) else none) else O) else none) else O) else none) else none) else none) else none) else none) else none) else some ((.exit 0),ao 108 [(6,(.ptr 0 0)),(7,(.ptr 1 0)),(9,(.val (.slice .none 0 0))),(63,(.sl false 27 2 0 N)),(64,(.val (.int .i64 n))),(65,(.val (.int .i64 i)))], [(.row (.cells [(.val (w1)),(.val (w2)),(.val (w3))]) 27 .live),(.row (.cells [(.val (z1)),(.val (z2)),(.val (z3))]) 27 .live),(.row (.vals cs) 27 .live)]))):=by kernel_rfl
theorem zb {N:Nat} {n i:Int} {w1 w2 w3 z1 z2 z3:Value} {cs:List Value} {e:Ex} {T:List AV} {H:Hp} (h:aP Tryz.prog (qm ad) 24 [6,7,9,63,64,65] (lb 24 eH) (false :: eH) (j7 N n i w1 w2 w3 z1 z2 z3 cs) (jv N n i w1 w2 w3 z1 z2 z3 cs)=some (e,T,H)):V.Ends Tryz.prog false 0 0 (lb 24 eH) (j7 N n i w1 w2 w3 z1 z2 z3 cs) (jv N n i w1 w2 w3 z1 z2 z3 cs) e T H:=
 bK ((aK _).add lp.cG) aO mixed Te h
section
variable {N : Nat} {w1 w2 w3 z1 z2 z3 : Value} {us cs : List Value}
def KQ (w1 w2 w3 z1 z2 z3:Value) (x:Rat) (cs:List Value):Hp:= [.row (.cells [.val w1, .val w2, .val w3]) 27 .live, .row (.cells [.val z1, .val z2, .val z3]) 27 .live, .row (.cells [.val (.bool (ad.qn x)), .val (.string (ad.qs x)), .val (.string (ad.qd x))]) 27 .live, .row (.vals cs) 27 .live]
theorem WY {k:Nat} {n i:Int} {x:Rat} :bL Tryz.prog (KQ w1 w2 w3 z1 z2 z3 x cs) (iu k N n i w1 w2 w3 z1 z2 z3 (aV [x]) cs):=
 bL.cons (gC.refl _) (bL.cons (gC.refl _) (bL.cons ⟨NZ (by rw [Jo];rfl),rfl,rfl⟩ (bL.cons (gC.refl _) bL.nil)))
theorem Xl (h:ib N cs w1 w2 w3 z1 z2 z3) (j:Nat) (I:j < N) (U:rv w1 w2 w3≤qt cs j) (Z:qt cs j≤rv z1 z2 z3):V.Ends Tryz.prog false 0 0 (lb 24 eH) (j7 N N j w1 w2 w3 z1 z2 z3 cs) (jv N N j w1 w2 w3 z1 z2 z3 cs) .normal (iT 1 N N ((j+1:Nat):Int) w1 w2 w3 z1 z2 z3 (aV [qt cs j]) cs) (KQ w1 w2 w3 z1 z2 z3 (qt cs j) cs):=by
 have aE:=h.lim
 have ab:cs.length=N*3:=by rw [h.can,ll]
 have a1:=h.sz j I
 obtain ⟨J,M,O⟩:=oJ h.can j I
 have G:=Eh ad N N j w1 w2 w3 z1 z2 z3 cs
 simp only [Int.toNat_natCast,Nat.zero_add,J,M,O,ug,tO] at G
 rw [dT (show (j:Int) < (N:Int) by omega),dT (show (0:Int)≤(j:Int) by omega),dT (show j*3 < cs.length by omega),dT (show j*3+1 < cs.length by omega),dT (show j*3+1+1 < cs.length by omega),aJ (z:=(j:Int)+1) (by omega),h.wr,h.zr,cy h.lo,cy h.hi,
  show ad.ok (ag (.string (ad.qs (qt cs j)))) (ag (.string (ad.qd (qt cs j))))=true from cM (by omega),show ad.qv (ar (.bool (ad.qn (qt cs j)))) (ag (.string (ad.qs (qt cs j)))) (ag (.string (ad.qd (qt cs j))))=qt cs j from dN _,dT (show ad.cq (ad.qv (ar w1) (ag w2) (ag w3)) (qt cs j)≤0 from mi.2 U),dT (show ad.cq (qt cs j) (ad.qv (ar z1) (ag z2) (ag z3))≤0 from mi.2 Z)] at G
 exact zb G
theorem K3 (h:ib N cs w1 w2 w3 z1 z2 z3) (j:Nat) (M:j < N) (ab:¬ (rv w1 w2 w3≤qt cs j∧qt cs j≤rv z1 z2 z3)):V.Ends Tryz.prog false 0 0 (lb 24 eH) (j7 N N j w1 w2 w3 z1 z2 z3 cs) (jv N N j w1 w2 w3 z1 z2 z3 cs) .normal (j7 N N ((j+1:Nat):Int) w1 w2 w3 z1 z2 z3 cs) (jv N N ((j+1:Nat):Int) w1 w2 w3 z1 z2 z3 cs):=by
 have a1:=h.lim
 have aE:cs.length=N*3:=by rw [h.can,ll]
 have a6:=h.sz j M
 obtain ⟨O,U,Z⟩:=oJ h.can j M
 have G:=Eh ad N N j w1 w2 w3 z1 z2 z3 cs
 simp only [Int.toNat_natCast,Nat.zero_add,O,U,Z,ug,tO] at G
 rw [dT (show (j:Int) < (N:Int) by omega),dT (show (0:Int)≤(j:Int) by omega),dT (show j*3 < cs.length by omega),dT (show j*3+1 < cs.length by omega),dT (show j*3+1+1 < cs.length by omega),aJ (z:=(j:Int)+1) (by omega),h.wr,h.zr,cy h.lo,cy h.hi,
  show ad.ok (ag (.string (ad.qs (qt cs j)))) (ag (.string (ad.qd (qt cs j))))=true from cM (by omega),show ad.qv (ar (.bool (ad.qn (qt cs j)))) (ag (.string (ad.qs (qt cs j)))) (ag (.string (ad.qd (qt cs j))))=qt cs j from dN _,show ad.qv (ar w1) (ag w2) (ag w3)=rv w1 w2 w3 from rfl,show ad.qv (ar z1) (ag z2) (ag z3)=rv z1 z2 z3 from rfl] at G
 by_cases I:rv w1 w2 w3≤qt cs j
 ·rw [dT (mi.2 I),dF (fun J=>ab ⟨I,mi.1 J⟩)] at G
  exact zb G
 ·rw [dF (fun J=>I (mi.1 J))] at G
  exact zb G
theorem Xk (h:ib N cs w1 w2 w3 z1 z2 z3) (O:bz (qt cs) (rv w1 w2 w3) (rv z1 z2 z3) N≠ []) (k:Nat):∀ j:Nat,N=j+k→bz (qt cs) (rv w1 w2 w3) (rv z1 z2 z3) j= []→aA Tryz.prog (lb 24 eH) (j7 N N j w1 w2 w3 z1 z2 z3 cs) (jv N N j w1 w2 w3 z1 z2 z3 cs) (.exit 0) (iT (bz (qt cs) (rv w1 w2 w3) (rv z1 z2 z3) N).length N N N w1 w2 w3 z1 z2 z3 (aV (bz (qt cs) (rv w1 w2 w3) (rv z1 z2 z3) N)) cs) (iu (bz (qt cs) (rv w1 w2 w3) (rv z1 z2 z3) N).length N N N w1 w2 w3 z1 z2 z3 (aV (bz (qt cs) (rv w1 w2 w3) (rv z1 z2 z3) N)) cs):=by
 induction k with
 | zero=>
  intro j M I
  have:N=j:=by omega
  subst this
  exact absurd I O
 | succ k U=>
  intro j M I
  by_cases G:rv w1 w2 w3≤qt cs j∧qt cs j≤rv z1 z2 z3
  ·have e1:bz (qt cs) (rv w1 w2 w3) (rv z1 z2 z3) (j+1)= [qt cs j]:=by
    unfold bz
    rw [if_pos G,I];rfl
   have J:=XN h k (j+1) (by omega)
   rw [e1] at J
   exact .more (Xl h j (by omega) G.1 G.2) (J.iM WY)
  ·exact .more (K3 h j (by omega) G) (U (j+1) (by omega) (by unfold bz;rw [if_neg G,I]))
theorem Xm (h:ib N cs w1 w2 w3 z1 z2 z3) (U:bz (qt cs) (rv w1 w2 w3) (rv z1 z2 z3) N= []) (k:Nat):∀ j:Nat,N=j+k→aA Tryz.prog (lb 24 eH) (j7 N N j w1 w2 w3 z1 z2 z3 cs) (jv N N j w1 w2 w3 z1 z2 z3 cs) (.exit 0) (j7 N N N w1 w2 w3 z1 z2 z3 cs) (jv N N N w1 w2 w3 z1 z2 z3 cs):=by
 have O:∀ d j,bz (qt cs) (rv w1 w2 w3) (rv z1 z2 z3) (j+d)= []→bz (qt cs) (rv w1 w2 w3) (rv z1 z2 z3) j= []:=by
  intro d
  induction d with
  | zero=>intro j G;exact G
  | succ d ab=>
   intro j G
   refine ab j ?_
   rw [← Nat.add_assoc] at G
   unfold bz at G
   split at G
   ·exact absurd G (by simp)
   ·exact G
 induction k with
 | zero=>
  intro j J
  have:N=j:=by omega
  subst this
  refine .last (zb ?_) (by intro h;cases h)
  rw [Eh,dF (show ¬ (N:Int) < (N:Int) by omega)]
  rfl
 | succ k Z=>
  intro j J
  refine .more (K3 h j (by omega) fun M=> ?_) (Z (j+1) (by omega))
  have I:=O k (j+1) (by rw [show j+1+k=N by omega];exact U)
  unfold bz at I
  rw [if_pos M] at I
  exact absurd I (by simp)
end
def uI (N:Nat) (n i:Int) (w1 w2 w3 z1 z2 z3:Value) (cs:List Value):Prop:=n=N∧i=0∧ib N cs w1 w2 w3 z1 z2 z3∧bz (qt cs) (rv w1 w2 w3) (rv z1 z2 z3) N≠ []
def Dw (N:Nat) (n i:Int) (w1 w2 w3 z1 z2 z3:Value) (cs:List Value) (ρ:Nat×Int×List Value):Prop:=ρ.1=(bz (qt cs) (rv w1 w2 w3) (rv z1 z2 z3) N).length∧ρ.2.2=aV (bz (qt cs) (rv w1 w2 w3) (rv z1 z2 z3) N)
theorem Yn (N:Nat) (n i:Int) (w1 w2 w3 z1 z2 z3:Value) (cs:List Value) (h:uI N n i w1 w2 w3 z1 z2 z3 cs):∃ ρ:Nat×Int×List Value,aA Tryz.prog (lb 24 eH) (j7 N n i w1 w2 w3 z1 z2 z3 cs) (jv N n i w1 w2 w3 z1 z2 z3 cs) (.exit 0) (iT ρ.1 N n ρ.2.1 w1 w2 w3 z1 z2 z3 ρ.2.2 cs) (iu ρ.1 N n ρ.2.1 w1 w2 w3 z1 z2 z3 ρ.2.2 cs)∧Dw N n i w1 w2 w3 z1 z2 z3 cs ρ:=by
 obtain ⟨rfl,rfl,G,I⟩:=h
 exact ⟨(_,(N:Int),_),Xk G I N 0 (by omega) rfl,rfl,rfl⟩
def F3 (I:Nat→Int→Int→Value→Value→Value→Value→Value→Value→List Value→Bool) (G:Nat→Int→Int→Value→Value→Value→Value→Value→Value→List Value→Nat×Int×List Value) (T:List AV) (H:Hp):Option (Bool×Ex×List AV×Hp):=
 match al T 6,al T 7,al T 9,al T 63,al T 64,al T 65,H with
 | .ptr 0 0, .ptr 1 0, .val (.slice none 0 0), .sl false 27 2 0 N, .val (.int .i64 n), .val (.int .i64 i), [.row (.cells [.val w1,.val w2,.val w3]) 27 .live, .row (.cells [.val z1,.val z2,.val z3]) 27 .live, .row (.vals cs) 27 .live]=>bif T.length==108 then some (I N n i w1 w2 w3 z1 z2 z3 cs, .exit 0,iT ((G N n i w1 w2 w3 z1 z2 z3 cs).1) N n ((G N n i w1 w2 w3 z1 z2 z3 cs).2.1) w1 w2 w3 z1 z2 z3 ((G N n i w1 w2 w3 z1 z2 z3 cs).2.2) cs,iu ((G N n i w1 w2 w3 z1 z2 z3 cs).1) N n ((G N n i w1 w2 w3 z1 z2 z3 cs).2.1) w1 w2 w3 z1 z2 z3 ((G N n i w1 w2 w3 z1 z2 z3 cs).2.2) cs) else none
 | _,_,_,_,_,_,_=>none
abbrev AO:Type:=Nat→Int→Int→Value→Value→Value→Value→Value→Value→List Value→Bool
abbrev Au:Type:=Nat→Int→Int→Value→Value→Value→Value→Value→Value→List Value→Nat×Int×List Value
def ox (G:AO) (I:Au) (L:aD):aD:=bu 0 24 eH [6,7,9,63,64,65] (F3 G I) L
def cR (N:Nat) (n i:Int) (w1 w2 w3 z1 z2 z3:Value) (cs:List Value):Nat×Int×List Value:=Classical.epsilon fun ρ=>aA Tryz.prog (lb 24 eH) (j7 N n i w1 w2 w3 z1 z2 z3 cs) (jv N n i w1 w2 w3 z1 z2 z3 cs) (.exit 0) (iT (ρ.1) N n (ρ.2.1) w1 w2 w3 z1 z2 z3 (ρ.2.2) cs) (iu (ρ.1) N n (ρ.2.1) w1 w2 w3 z1 z2 z3 (ρ.2.2) cs)∧Dw N n i w1 w2 w3 z1 z2 z3 cs ρ
theorem MB (N:Nat) (n i:Int) (w1 w2 w3 z1 z2 z3:Value) (cs:List Value) (h:uI N n i w1 w2 w3 z1 z2 z3 cs):aA Tryz.prog (lb 24 eH) (j7 N n i w1 w2 w3 z1 z2 z3 cs) (jv N n i w1 w2 w3 z1 z2 z3 cs) (.exit 0) (iT ((cR N n i w1 w2 w3 z1 z2 z3 cs).1) N n ((cR N n i w1 w2 w3 z1 z2 z3 cs).2.1) w1 w2 w3 z1 z2 z3 ((cR N n i w1 w2 w3 z1 z2 z3 cs).2.2) cs) (iu ((cR N n i w1 w2 w3 z1 z2 z3 cs).1) N n ((cR N n i w1 w2 w3 z1 z2 z3 cs).2.1) w1 w2 w3 z1 z2 z3 ((cR N n i w1 w2 w3 z1 z2 z3 cs).2.2) cs)∧Dw N n i w1 w2 w3 z1 z2 z3 cs (cR N n i w1 w2 w3 z1 z2 z3 cs):=Classical.epsilon_spec (Yn N n i w1 w2 w3 z1 z2 z3 cs h)
def jl (N:Nat) (n i:Int) (w1 w2 w3 z1 z2 z3:Value) (cs:List Value):Bool:= @decide (uI N n i w1 w2 w3 z1 z2 z3 cs) (Classical.propDecidable _)
theorem Ud (N:Nat) (n i:Int) (w1 w2 w3 z1 z2 z3:Value) (cs:List Value) (h:uI N n i w1 w2 w3 z1 z2 z3 cs):jl N n i w1 w2 w3 z1 z2 z3 cs=true:= @decide_eq_true _ (Classical.propDecidable _) h
theorem adn (T:List AV) (H:Hp) (e:Ex) (J:List AV) (I:Hp) (h:F3 jl cR T H=some (true,e,J,I)):V.Ends Tryz.prog false 0 0 (.loop (lb 24 eH)) T H e J I:=by
 unfold F3 at h
 split at h
 ·rename_i N n i w1 w2 w3 z1 z2 z3 cs U a1 a6 Z ab aE
  rw [Bool.cond_eq_ite] at h
  split at h
  ·rename_i M
   rw [beq_iff_eq] at M
   simp only [Option.some.injEq,Prod.mk.injEq,Bool.and_eq_true,decide_eq_true_eq] at h
   obtain ⟨k1,rfl,rfl,rfl⟩:=h
   have bx:= @of_decide_eq_true _ (Classical.propDecidable _) k1
   refine Ends.pre (MB N n i w1 w2 w3 z1 z2 z3 cs bx).1.ends (fun α B w D bD a7=>bw M (fun p O y G=> ?_) a7)
   simp only [List.mem_cons,List.not_mem_nil,or_false] at O
   rcases O with rfl | rfl | rfl | rfl | rfl | rfl
   ·rw [U] at G;exact G
   ·rw [a1] at G;exact G
   ·rw [a6] at G;exact G
   ·rw [Z] at G;exact G
   ·rw [ab] at G;exact G
   ·rw [aE] at G;exact G
  ·cases h
 ·cases h
theorem Iw {L:aD} (h:aC Tryz.prog L):aC Tryz.prog (ox jl cR L):=h.bC Rx adn
abbrev pA:List Bool:= [false,true,false,true,true,true,true,true,true]
def pP (N:Nat) (n i:Int) (w1 w2 w3 z1 z2 z3:Value) (cs:List Value):List AV:=ao 108 [(6, .ptr 0 0),(7, .ptr 1 0),(9, .val (.slice none 0 0)),(63, .sl false 27 2 0 N),(64, .val (.int .i64 n)),(65, .val (.int .i64 i))]
def oV (N:Nat) (n i:Int) (w1 w2 w3 z1 z2 z3:Value) (cs:List Value):Hp:= [.row (.cells [.val w1,.val w2,.val w3]) 27 .live, .row (.cells [.val z1,.val z2,.val z3]) 27 .live, .row (.vals cs) 27 .live]
theorem Ry:aI Tryz.prog 24 pA=some (.loop (lb 24 pA)):=by kernel_rfl
def yK (N:Nat) (n i:Int) (w1 w2 w3 z1 z2 z3:Value) (cs:List Value):Prop:=n=N∧i=0∧ib N cs w1 w2 w3 z1 z2 z3∧bz (qt cs) (rv w1 w2 w3) (rv z1 z2 z3) N= []
def Dx (N:Nat) (n i:Int) (w1 w2 w3 z1 z2 z3:Value) (cs:List Value) (ρ:Int):Prop:=ρ=N
theorem Yo (N:Nat) (n i:Int) (w1 w2 w3 z1 z2 z3:Value) (cs:List Value) (h:yK N n i w1 w2 w3 z1 z2 z3 cs):∃ ρ:Int,aA Tryz.prog (lb 24 pA) (pP N n i w1 w2 w3 z1 z2 z3 cs) (oV N n i w1 w2 w3 z1 z2 z3 cs) (.exit 0) (pP N n ρ w1 w2 w3 z1 z2 z3 cs) (oV N n ρ w1 w2 w3 z1 z2 z3 cs)∧Dx N n i w1 w2 w3 z1 z2 z3 cs ρ:=by
 obtain ⟨rfl,rfl,G,I⟩:=h
 exact ⟨(N:Int),Xm G I N 0 (by omega),rfl⟩
def F4 (I:Nat→Int→Int→Value→Value→Value→Value→Value→Value→List Value→Bool) (G:Nat→Int→Int→Value→Value→Value→Value→Value→Value→List Value→Int) (T:List AV) (H:Hp):Option (Bool×Ex×List AV×Hp):=
 match al T 6,al T 7,al T 9,al T 63,al T 64,al T 65,H with
 | .ptr 0 0, .ptr 1 0, .val (.slice none 0 0), .sl false 27 2 0 N, .val (.int .i64 n), .val (.int .i64 i), [.row (.cells [.val w1,.val w2,.val w3]) 27 .live, .row (.cells [.val z1,.val z2,.val z3]) 27 .live, .row (.vals cs) 27 .live]=>bif T.length==108 then some (I N n i w1 w2 w3 z1 z2 z3 cs, .exit 0,pP N n ((G N n i w1 w2 w3 z1 z2 z3 cs)) w1 w2 w3 z1 z2 z3 cs,oV N n ((G N n i w1 w2 w3 z1 z2 z3 cs)) w1 w2 w3 z1 z2 z3 cs) else none
 | _,_,_,_,_,_,_=>none
abbrev Ie:Type:=Nat→Int→Int→Value→Value→Value→Value→Value→Value→List Value→Bool
abbrev HG:Type:=Nat→Int→Int→Value→Value→Value→Value→Value→Value→List Value→Int
def Bl (G:Ie) (I:HG) (L:aD):aD:=bu 0 24 pA [6,7,9,63,64,65] (F4 G I) L
def pB (N:Nat) (n i:Int) (w1 w2 w3 z1 z2 z3:Value) (cs:List Value):Int:=Classical.epsilon fun ρ=>aA Tryz.prog (lb 24 pA) (pP N n i w1 w2 w3 z1 z2 z3 cs) (oV N n i w1 w2 w3 z1 z2 z3 cs) (.exit 0) (pP N n (ρ) w1 w2 w3 z1 z2 z3 cs) (oV N n (ρ) w1 w2 w3 z1 z2 z3 cs)∧Dx N n i w1 w2 w3 z1 z2 z3 cs ρ
theorem ZU (N:Nat) (n i:Int) (w1 w2 w3 z1 z2 z3:Value) (cs:List Value) (h:yK N n i w1 w2 w3 z1 z2 z3 cs):aA Tryz.prog (lb 24 pA) (pP N n i w1 w2 w3 z1 z2 z3 cs) (oV N n i w1 w2 w3 z1 z2 z3 cs) (.exit 0) (pP N n ((pB N n i w1 w2 w3 z1 z2 z3 cs)) w1 w2 w3 z1 z2 z3 cs) (oV N n ((pB N n i w1 w2 w3 z1 z2 z3 cs)) w1 w2 w3 z1 z2 z3 cs)∧Dx N n i w1 w2 w3 z1 z2 z3 cs (pB N n i w1 w2 w3 z1 z2 z3 cs):=Classical.epsilon_spec (Yo N n i w1 w2 w3 z1 z2 z3 cs h)
def qD (N:Nat) (n i:Int) (w1 w2 w3 z1 z2 z3:Value) (cs:List Value):Bool:= @decide (yK N n i w1 w2 w3 z1 z2 z3 cs) (Classical.propDecidable _)
theorem Ue (N:Nat) (n i:Int) (w1 w2 w3 z1 z2 z3:Value) (cs:List Value) (h:yK N n i w1 w2 w3 z1 z2 z3 cs):qD N n i w1 w2 w3 z1 z2 z3 cs=true:= @decide_eq_true _ (Classical.propDecidable _) h
theorem ado (T:List AV) (H:Hp) (e:Ex) (J:List AV) (I:Hp) (h:F4 qD pB T H=some (true,e,J,I)):V.Ends Tryz.prog false 0 0 (.loop (lb 24 pA)) T H e J I:=by
 unfold F4 at h
 split at h
 ·rename_i N n i w1 w2 w3 z1 z2 z3 cs U a1 a6 Z ab aE
  rw [Bool.cond_eq_ite] at h
  split at h
  ·rename_i M
   rw [beq_iff_eq] at M
   simp only [Option.some.injEq,Prod.mk.injEq,Bool.and_eq_true,decide_eq_true_eq] at h
   obtain ⟨k1,rfl,rfl,rfl⟩:=h
   have bx:= @of_decide_eq_true _ (Classical.propDecidable _) k1
   refine Ends.pre (ZU N n i w1 w2 w3 z1 z2 z3 cs bx).1.ends (fun α B w D bD a7=>bw M (fun p O y G=> ?_) a7)
   simp only [List.mem_cons,List.not_mem_nil,or_false] at O
   rcases O with rfl | rfl | rfl | rfl | rfl | rfl
   ·rw [U] at G;exact G
   ·rw [a1] at G;exact G
   ·rw [a6] at G;exact G
   ·rw [Z] at G;exact G
   ·rw [ab] at G;exact G
   ·rw [aE] at G;exact G
  ·cases h
 ·cases h
theorem Qm {L:aD} (h:aC Tryz.prog L):aC Tryz.prog (Bl qD pB L):=h.bC Ry ado
end
end Go.Proofs.YtamcpiicmfielaaGreat.L
namespace Go.Proofs.YtamcpiicmfielaaGreat.L
open Go Go.V Go.RowKit Go.Proofs.YtamcpiicmfielaaGreat.Sp
open Go.Proofs (Tryz.prog)
noncomputable section
def wu:Env:= ⟨aM,az,aq⟩
abbrev mF:List Bool:= [false,true,false,true,true,true,true,true,true,true,true,true,true]
def iY (m k:Nat) (i:Int) (us G:List Value):List AV:=ao 108 [(9, .sl false 27 0 0 m),(12, .sl false 52 1 0 k),(13, .val (.int .i64 i))]
def iA (m k:Nat) (i:Int) (us G:List Value):Hp:= [.row (.vals us) 27 .live, .row (.vals G) 52 .live]
theorem TE:aI Tryz.prog 24 (false :: mF)=some (lb 24 mF):=by kernel_rfl
theorem ND (m k:Nat) (i:Int) (us G:List Value):letI I:=(us.getD (0+(i - 1).toNat*3+1+1) undef);letI J:=(us.getD (0+(i - 1).toNat*3+1) undef);letI M:=(us.getD (0+i.toNat*3+1+1) undef);letI O:=(us.getD (0+(i - 1).toNat*3) undef);letI U:=(us.getD (0+i.toNat*3+1) undef);letI Z:=(us.getD (0+i.toNat*3) undef);
  (aP Tryz.prog wu 24 [9,12,13] (lb 24 mF) (false :: mF) (iY m k i us G) (iA m k i us G)=(bif decide (i < (↑m:Int)) then (bif ah IntKind.i64 (i - 1) then (bif decide (0≤i - 1)&&decide (i - 1 < (↑m:Int)) then (bif decide (0+(i - 1).toNat*3 < us.length) then (bif decide (0+(i - 1).toNat*3+1 < us.length) then (bif decide (0+(i - 1).toNat*3+1+1 < us.length) then (bif decide (0≤i)&&decide (i < (↑m:Int)) then (bif decide (0+i.toNat*3 < us.length) then (bif decide (0+i.toNat*3+1 < us.length) then (bif decide (0+i.toNat*3+1+1 < us.length) then (bif [AV.val O,AV.val J,AV.val I].all aS then (bif [AV.val Z,AV.val U,AV.val M].all aS then (bif [AV.val O,AV.val J,AV.val I,AV.val Z,AV.val U,AV.val M].all aS then (bif decide (k*6≤(an.vals G).len)&&aQ Tryz.prog (k+1) 52&&((mG (intKind Tryz.prog 52) [AV.val O,AV.val J,AV.val I,AV.val Z,AV.val U,AV.val M]).sub 0 6).bJ then (bif ah IntKind.i64 (i+1) then some (.normal,ao 108 [(9,(.sl false 27 0 0 m)),(12,(.sl false 52 1 0 (k+1))),(13,(.val (.int .i64 (i+1))))], [(.row (.vals us) 27 .live),(.row (.vals ((List.take (k*6) G) ++ ([O,J,I,Z,U,M]:List Value))) 52 .live)]) else none) else none) else none) else none) else none) else none) else none) else none) else none) else none) else none) else none) else none) else none) else some ((.exit 2),ao 108 [(9,(.sl false 27 0 0 m)),(12,(.sl false 52 1 0 k)),(13,(.val (.int .i64 i)))], [(.row (.vals us) 27 .live),(.row (.vals G) 52 .live)]))):=by kernel_rfl
theorem OA {m k:Nat} {i:Int} {us G:List Value} {e:Ex} {T:List AV} {H:Hp} (h:aP Tryz.prog wu 24 [9,12,13] (lb 24 mF) (false :: mF) (iY m k i us G) (iA m k i us G)=some (e,T,H)):V.Ends Tryz.prog false 0 0 (lb 24 mF) (iY m k i us G) (iA m k i us G) e T H:=
 bK (aK _) aO mixed TE h
def cS (S:Nat→Rat):Nat→List Value
 | 0=> []
 | k+1=>cS S k ++ [.bool (ad.qn (S k)), .string (ad.qs (S k)), .string (ad.qd (S k)), .bool (ad.qn (S (k+1))), .string (ad.qs (S (k+1))), .string (ad.qd (S (k+1)))]
theorem vv (S:Nat→Rat):∀ k,(cS S k).length=k*6
 | 0=>rfl
 | k+1=>by unfold cS;rw [List.length_append,vv S k];show _+6=_;omega
structure sE (m:Nat) (us:List Value):Prop where
 lim:m≤1000
 len:m*3≤us.length
 can:∀ i,i < m→us.getD (i*3) undef= .bool (ad.qn (qt us i))∧us.getD (i*3+1) undef= .string (ad.qs (qt us i))∧us.getD (i*3+1+1) undef= .string (ad.qd (qt us i))
theorem aa3 {m:Nat} (h:m≤2000):aQ Tryz.prog m 52=true:=by
 have e:Tryz.prog.bytesOf 52=80:=by kernel_rfl
 unfold aQ
 rw [e,decide_eq_true (show m*80≤140737488355328 by omega),decide_eq_true (show m≤9223372036854775807 by omega)];rfl
theorem L9 (b:Bool) (s d:BA) (G:Bool) (J I:BA): [AV.val (.bool b), .val (.string s), .val (.string d), .val (.bool G), .val (.string J), .val (.string I)].all aS=true:=rfl
theorem ZJ (b:Bool) (s d:BA) (G:Bool) (J I:BA):((mG (intKind Tryz.prog 52) [AV.val (.bool b), .val (.string s), .val (.string d), .val (.bool G), .val (.string J), .val (.string I)]).sub 0 6).bJ=true:=by kernel_rfl
theorem aby {m:Nat} {us:List Value} (h:sE m us) (j:Nat) (aE:j+1 < m):V.Ends Tryz.prog false 0 0 (lb 24 mF) (iY m j ((j+1:Nat):Int) us (cS (qt us) j)) (iA m j ((j+1:Nat):Int) us (cS (qt us) j)) .normal (iY m (j+1) ((j+1+1:Nat):Int) us (cS (qt us) (j+1))) (iA m (j+1) ((j+1+1:Nat):Int) us (cS (qt us) (j+1))):=by
 have a6:=h.lim
 have a1:=h.len
 obtain ⟨I,J,M⟩:=h.can j (by omega)
 obtain ⟨O,U,Z⟩:=h.can (j+1) aE
 have G:=ND m j ((j+1:Nat):Int) us (cS (qt us) j)
 have e1:((j+1:Nat):Int) - 1=(j:Int):=by omega
 have e0:(an.vals (cS (qt us) j)).len=j*6:=vv _ j
 have ab:List.take (j*6) (cS (qt us) j)=cS (qt us) j:=List.take_of_length_le (Nat.le_of_eq (vv _ j))
 simp only [e1,Int.toNat_natCast,Nat.zero_add,I,J,M,O,U,Z,e0,ab,Nat.le_refl,decide_true,Bool.true_and,ug,L9,ZJ] at G
 rw [dT (show ((j+1:Nat):Int) < (m:Int) by omega),aJ (z:=(j:Int)) (by omega),dT (show (0:Int)≤(j:Int) by omega),dT (show (j:Int) < (m:Int) by omega),dT (show j*3 < us.length by omega),dT (show j*3+1 < us.length by omega),dT (show j*3+1+1 < us.length by omega),
  dT (show (0:Int)≤((j+1:Nat):Int) by omega),dT (show (j+1)*3 < us.length by omega),dT (show (j+1)*3+1 < us.length by omega),dT (show (j+1)*3+1+1 < us.length by omega),aa3 (m:=j+1) (by omega),aJ (z:=((j+1:Nat):Int)+1) (by omega)] at G
 exact OA G
theorem abx {m:Nat} {us:List Value} (h:sE m us) (k:Nat):∀ j,m=j+1+k→aA Tryz.prog (lb 24 mF) (iY m j ((j+1:Nat):Int) us (cS (qt us) j)) (iA m j ((j+1:Nat):Int) us (cS (qt us) j)) (.exit 2) (iY m (m - 1) (m:Int) us (cS (qt us) (m - 1))) (iA m (m - 1) (m:Int) us (cS (qt us) (m - 1))):=by
 induction k with
 | zero=>
  intro j G
  have:m=j+1:=by omega
  subst this
  refine .last (OA ?_) (by intro h;cases h)
  rw [ND,dF (show ¬ ((j+1:Nat):Int) < ((j+1:Nat):Int) by omega)]
  rfl
 | succ k I=>
  intro j G
  exact .more (aby h j (by omega)) (I (j+1) (by omega))
abbrev gm:List Bool:= [false,true,false,true,true,true,true,true,true,true,true,true,true]
def pQ (m:Nat) (i:Int) (us:List Value):List AV:=ao 108 [(9, .sl false 27 0 0 m),(12, .val (.slice none 0 0)),(13, .val (.int .i64 i))]
def oW (m:Nat) (i:Int) (us:List Value):Hp:= [.row (.vals us) 27 .live]
theorem RS:aI Tryz.prog 24 gm=some (.loop (lb 24 gm)):=by kernel_rfl
theorem TG:aI Tryz.prog 24 (false :: gm)=some (lb 24 gm):=by kernel_rfl
theorem abg (m:Nat) (i:Int) (us:List Value):letI G:=(us.getD (0+(i - 1).toNat*3+1+1) undef);letI I:=(us.getD (0+(i - 1).toNat*3+1) undef);letI J:=(us.getD (0+i.toNat*3+1+1) undef);letI M:=(us.getD (0+(i - 1).toNat*3) undef);letI O:=(us.getD (0+i.toNat*3+1) undef);letI U:=(us.getD (0+i.toNat*3) undef);
  (aP Tryz.prog wu 24 [9,12,13] (lb 24 gm) (false :: gm) (pQ m i us) (oW m i us)=(bif decide (i < (↑m:Int)) then (bif ah IntKind.i64 (i - 1) then (bif decide (0≤i - 1)&&decide (i - 1 < (↑m:Int)) then (bif decide (0+(i - 1).toNat*3 < us.length) then (bif decide (0+(i - 1).toNat*3+1 < us.length) then (bif decide (0+(i - 1).toNat*3+1+1 < us.length) then (bif decide (0≤i)&&decide (i < (↑m:Int)) then (bif decide (0+i.toNat*3 < us.length) then (bif decide (0+i.toNat*3+1 < us.length) then (bif decide (0+i.toNat*3+1+1 < us.length) then (bif [AV.val M,AV.val I,AV.val G].all aS then (bif [AV.val U,AV.val O,AV.val J].all aS then (bif [AV.val M,AV.val I,AV.val G,AV.val U,AV.val O,AV.val J].all aS then (bif ah IntKind.i64 (i+1) then some (.normal,ao 108 [(9,(.sl false 27 0 0 m)),(12,(.sl false 52 1 0 1)),(13,(.val (.int .i64 (i+1))))], [(.row (.vals us) 27 .live),(.row (.cells [(.val M),(.val I),(.val G),(.val U),(.val O),(.val J)]) 52 .live)]) else none) else none) else none) else none) else none) else none) else none) else none) else none) else none) else none) else none) else none) else some ((.exit 2),ao 108 [(9,(.sl false 27 0 0 m)),(12,(.val (.slice .none 0 0))),(13,(.val (.int .i64 i)))], [(.row (.vals us) 27 .live)]))):=by kernel_rfl
theorem acs {m:Nat} {i:Int} {us:List Value} {e:Ex} {T:List AV} {H:Hp} (h:aP Tryz.prog wu 24 [9,12,13] (lb 24 gm) (false :: gm) (pQ m i us) (oW m i us)=some (e,T,H)):V.Ends Tryz.prog false 0 0 (lb 24 gm) (pQ m i us) (oW m i us) e T H:=
 bK (aK _) aO mixed TG h
def KR (us:List Value) (x y:Rat):Hp:= [.row (.vals us) 27 .live, .row (.cells [.val (.bool (ad.qn x)), .val (.string (ad.qs x)), .val (.string (ad.qd x)), .val (.bool (ad.qn y)), .val (.string (ad.qs y)), .val (.string (ad.qd y))]) 52 .live]
theorem WZ {m k:Nat} {i:Int} {us:List Value} :bL Tryz.prog (KR us (qt us 0) (qt us 1)) (iA m k i us (cS (qt us) 1)):=
 bL.cons (gC.refl _) (bL.cons ⟨NZ rfl,rfl,rfl⟩ bL.nil)
theorem abz {m:Nat} {us:List Value} (h:sE m us) (a6:1 < m):aA Tryz.prog (lb 24 gm) (pQ m 1 us) (oW m 1 us) (.exit 2) (iY m (m - 1) (m:Int) us (cS (qt us) (m - 1))) (iA m (m - 1) (m:Int) us (cS (qt us) (m - 1))):=by
 have a1:=h.lim
 have aE:=h.len
 obtain ⟨I,J,M⟩:=h.can 0 (by omega)
 obtain ⟨O,U,Z⟩:=h.can 1 (by omega)
 have G:=abg m 1 us
 have ab:=abx h (m - 2) 1 (by omega)
 refine .more (acs (T:=iY m 1 ((1+1:Nat):Int) us (cS (qt us) 1)) (H:=KR us (qt us 0) (qt us 1)) ?_) (ab.iM WZ)
 simp only [show ((1:Int) - 1)=0 from rfl,Int.toNat_zero,show (1:Int).toNat=1 from rfl,Nat.zero_mul,Nat.one_mul,Nat.zero_add] at G I J M O U Z
 simp only [I,J,M,O,U,Z,ug,L9] at G
 rw [dT (show (1:Int) < (m:Int) by omega),dT (show (0:Int) < (m:Int) by omega),dT (show 0 < us.length by omega),dT (show 1 < us.length by omega),dT (show 1+1 < us.length by omega),
  dT (show 3 < us.length by omega),dT (show 3+1 < us.length by omega),dT (show 3+1+1 < us.length by omega)] at G
 exact G
def u0 (m:Nat) (i:Int) (us:List Value):Prop:=i=1∧1 < m∧sE m us
def DM (m:Nat) (i:Int) (us:List Value) (ρ:Nat×Int×List Value):Prop:=ρ.1=m - 1∧ρ.2.2=cS (qt us) (m - 1)
theorem YI (m:Nat) (i:Int) (us:List Value) (h:u0 m i us):∃ ρ:Nat×Int×List Value,aA Tryz.prog (lb 24 gm) (pQ m i us) (oW m i us) (.exit 2) (iY m ρ.1 ρ.2.1 us ρ.2.2) (iA m ρ.1 ρ.2.1 us ρ.2.2)∧DM m i us ρ:=by
 obtain ⟨rfl,G,I⟩:=h
 exact ⟨(m - 1,(m:Int),_),abz I G,rfl,rfl⟩
def Gq (I:Nat→Int→List Value→Bool) (G:Nat→Int→List Value→Nat×Int×List Value) (T:List AV) (H:Hp):Option (Bool×Ex×List AV×Hp):=
 match al T 9,al T 12,al T 13,H with
 | .sl false 27 0 0 m, .val (.slice none 0 0), .val (.int .i64 i), [.row (.vals us) 27 .live]=>bif T.length==108 then some (I m i us, .exit 2,iY m ((G m i us).1) ((G m i us).2.1) us ((G m i us).2.2),iA m ((G m i us).1) ((G m i us).2.1) us ((G m i us).2.2)) else none
 | _,_,_,_=>none
abbrev Io:Type:=Nat→Int→List Value→Bool
abbrev HO:Type:=Nat→Int→List Value→Nat×Int×List Value
def sC (G:Io) (I:HO) (L:aD):aD:=bu 0 24 gm [9,12,13] (Gq G I) L
def fC (m:Nat) (i:Int) (us:List Value):Nat×Int×List Value:=Classical.epsilon fun ρ=>aA Tryz.prog (lb 24 gm) (pQ m i us) (oW m i us) (.exit 2) (iY m (ρ.1) (ρ.2.1) us (ρ.2.2)) (iA m (ρ.1) (ρ.2.1) us (ρ.2.2))∧DM m i us ρ
theorem MT (m:Nat) (i:Int) (us:List Value) (h:u0 m i us):aA Tryz.prog (lb 24 gm) (pQ m i us) (oW m i us) (.exit 2) (iY m ((fC m i us).1) ((fC m i us).2.1) us ((fC m i us).2.2)) (iA m ((fC m i us).1) ((fC m i us).2.1) us ((fC m i us).2.2))∧DM m i us (fC m i us):=Classical.epsilon_spec (YI m i us h)
def mh (m:Nat) (i:Int) (us:List Value):Bool:= @decide (u0 m i us) (Classical.propDecidable _)
theorem Ux (m:Nat) (i:Int) (us:List Value) (h:u0 m i us):mh m i us=true:= @decide_eq_true _ (Classical.propDecidable _) h
theorem adI (T:List AV) (H:Hp) (e:Ex) (J:List AV) (I:Hp) (h:Gq mh fC T H=some (true,e,J,I)):V.Ends Tryz.prog false 0 0 (.loop (lb 24 gm)) T H e J I:=by
 unfold Gq at h
 split at h
 ·rename_i m i us ab U Z
  rw [Bool.cond_eq_ite] at h
  split at h
  ·rename_i M
   rw [beq_iff_eq] at M
   simp only [Option.some.injEq,Prod.mk.injEq,Bool.and_eq_true,decide_eq_true_eq] at h
   obtain ⟨k1,rfl,rfl,rfl⟩:=h
   have a1:= @of_decide_eq_true _ (Classical.propDecidable _) k1
   refine Ends.pre (MT m i us a1).1.ends (fun α B w D a6 aE=>bw M (fun p O y G=> ?_) aE)
   simp only [List.mem_cons,List.not_mem_nil,or_false] at O
   rcases O with rfl | rfl | rfl
   ·rw [ab] at G;exact G
   ·rw [U] at G;exact G
   ·rw [Z] at G;exact G
  ·cases h
 ·cases h
theorem QE {L:aD} (h:aC Tryz.prog L):aC Tryz.prog (sC mh fC L):=h.bC RS adI
end
end Go.Proofs.YtamcpiicmfielaaGreat.L
namespace Go.Proofs.YtamcpiicmfielaaGreat.L
open Go Go.V Go.RowKit Go.Proofs.YtamcpiicmfielaaGreat.Sp
open Go.Proofs (Tryz.prog)
noncomputable section
structure Mg where
 so:Nat→List Value→Bool
 sv:Nat→List Value→List Value
 co:Nat→List Value→Bool
 cn:Nat→List Value→Nat
 cv:Nat→List Value→List Value
def Fw (G:Mg):List AV→Hp→Option (Bool×AV×Hp):=fun args H=>
 match args with
 | [.sl false t i 0 m, .val (.func (.func c) ⟨[]⟩ ⟨[]⟩)]=>
  (match H[i]? with
  | some (.row (.vals us) I .live)=>bif t==27&&I==27&&c==23 then some (G.so m us, .tup [],H.set i (.row (.vals (G.sv m us)) 27 .live)) else none
  | _=>none)
 | _=>none
def vO (G:Mg):List AV→Hp→Option (Bool×AV×Hp):=fun args H=>
 match args with
 | [.sl false t i 0 m]=>
  (match H[i]? with
  | some (.row (.vals us) I .live)=>bif t==27&&I==27 then some (G.co m us, .sl false 27 i 0 (G.cn m us),H.set i (.row (.vals (G.cv m us)) 27 .live)) else none
  | _=>none)
 | _=>none
def qp:FuncId→Bool:=fun g=> !(g==66)&& !(g==67)
def nr (G:Mg) (L:aD):aD:=oA 66 (Fw G) (oA 67 (vO G) L)
def lZ (C:Cg) (G:Qg):FuncId→TF:=au 18 (pS C) (au 23 (cG (nj G)) aM)
def qR3 (vs:List Value) (j:Nat):Bool:= [(fun q=>af 3 vs j (0+q)) (nat_lit 0),(fun q=>af 3 vs j (0+q)) (nat_lit 1),(fun q=>af 3 vs j (0+q)) (nat_lit 2)].all aS
theorem XC (C:Cg) (ab:Qg) (G:Mg) (b3:AO) (b5:Au) (b4:Io) (b6:HO) (n:Nat) (ts:List Value) (m:Nat) (ps:List Value) (n2:Nat) (us:List Value) (m2:Nat) (qs:List Value):letI aE:=(ai 3 n (af 3 ts));letI eb:=(List.take ((0+n)*3) aE ++ ai 3 n2 (af 3 us));letI Z:=((↑n2:Int) - 1);letI I:=(us.getD (Z.toNat*3+1) undef);letI J:=(us.getD (Z.toNat*3+2) undef);letI a1:=(us.getD (Z.toNat*3+0) undef);letI eh:=((↑n:Int) - 1);letI M:=(ts.getD (eh.toNat*3+1) undef);letI O:=(ts.getD (eh.toNat*3+2) undef);letI a6:=(ts.getD (eh.toNat*3+0) undef);letI eg:=(List.take (n*3) aE ++ ai 3 n2 (af 3 us));letI U:=(ai 3 n2 (af 3 us));letI ed:=(↑(0+n+n2):Int);letI b1:=(us.getD 0 undef);letI a7:=(us.getD 1 undef);letI bx:=(us.getD 2 undef);letI b7:=(b5 (0+n+n2) ed (0:Int) b1 a7 bx a1 I J eb);letI ch:=(b5 (0+n+n2) ed (0:Int) b1 a7 bx a6 M O eb);letI b2:=(ts.getD 0 undef);letI bD:=(ts.getD 1 undef);letI b0:=(ts.getD 2 undef);letI ct:=(b5 (0+n+n2) ed (0:Int) b2 bD b0 a1 I J eb);letI c0:=(b5 (0+n+n2) ed (0:Int) b2 bD b0 a6 M O eb);letI c3:=(b5 (n+n2) (↑(n+n2):Int) (0:Int) b1 a7 bx a1 I J eg);letI c4:=(b5 (n+n2) (↑(n+n2):Int) (0:Int) b1 a7 bx a6 M O eg);letI c5:=(b5 (n+n2) (↑(n+n2):Int) (0:Int) b2 bD b0 a1 I J eg);letI c6:=(b5 (n+n2) (↑(n+n2):Int) (0:Int) b2 bD b0 a6 M O eg);letI c7:=(b5 n2 (↑n2:Int) (0:Int) b1 a7 bx a1 I J U);letI dx:=(b5 n2 (↑n2:Int) (0:Int) b1 a7 bx a6 M O U);letI dy:=(b5 n2 (↑n2:Int) (0:Int) b2 bD b0 a1 I J U);letI ea:=(b5 n2 (↑n2:Int) (0:Int) b2 bD b0 a6 M O U);letI ec:=(0+(↑n:Int)+(↑n2:Int) - 0);letI ek:=(G.sv b7.fst b7.snd.snd);letI e5:=(b6 (G.cn b7.fst ek) (1:Int) (G.cv b7.fst ek));letI en:=(G.sv c7.fst c7.snd.snd);letI e6:=(b6 (G.cn c7.fst en) (1:Int) (G.cv c7.fst en));letI eo:=(G.sv c3.fst c3.snd.snd);letI e7:=(b6 (G.cn c3.fst eo) (1:Int) (G.cv c3.fst eo));letI ep:=(G.sv ch.fst ch.snd.snd);letI fa:=(b6 (G.cn ch.fst ep) (1:Int) (G.cv ch.fst ep));letI et:=(G.sv dx.fst dx.snd.snd);letI fc:=(b6 (G.cn dx.fst et) (1:Int) (G.cv dx.fst et));letI eu:=(G.sv c4.fst c4.snd.snd);letI fh:=(b6 (G.cn c4.fst eu) (1:Int) (G.cv c4.fst eu));letI ev:=(G.sv ct.fst ct.snd.snd);letI fs:=(b6 (G.cn ct.fst ev) (1:Int) (G.cv ct.fst ev));letI ez:=(G.sv dy.fst dy.snd.snd);letI fv:=(b6 (G.cn dy.fst ez) (1:Int) (G.cv dy.fst ez));letI eN:=(G.sv c5.fst c5.snd.snd);letI gf:=(b6 (G.cn c5.fst eN) (1:Int) (G.cv c5.fst eN));letI e2:=(G.sv c0.fst c0.snd.snd);letI gn:=(b6 (G.cn c0.fst e2) (1:Int) (G.cv c0.fst e2));letI e3:=(G.sv ea.fst ea.snd.snd);letI hc:=(b6 (G.cn ea.fst e3) (1:Int) (G.cv ea.fst e3));letI e4:=(G.sv c6.fst c6.snd.snd);letI hd:=(b6 (G.cn c6.fst e4) (1:Int) (G.cv c6.fst e4));letI hf:=(0+(↑n:Int)+(↑n2:Int));
  (aG Tryz.prog ⟨lZ C ab,qp,ox b3 b5 (sC b4 b6 (nr G aq))⟩ 10 10 24 [bO n ts m ps,bO n2 us m2 qs]=(bif aw 3 n (af 3 ts)&&aw 6 m (af 6 ps)&&C.ko n aE m (ai 6 m (af 6 ps)) then (bif !decide (C.ck n aE m (ai 6 m (af 6 ps))=0) then some (.tup [(.val (.slice .none 0 0)),(.val (.int .i64 1))]) else (bif aw 3 n2 (af 3 us)&&aw 6 m2 (af 6 qs)&&C.ko n2 U m2 (ai 6 m2 (af 6 qs)) then (bif !decide (C.ck n2 U m2 (ai 6 m2 (af 6 qs))=0) then some (.tup [(.val (.slice .none 0 0)),(.val (.int .i64 1))]) else (bif decide (0 < (↑n:Int)) then (bif ah IntKind.i64 eh then (bif decide (0≤(↑n:Int) - 1)&&decide ((↑n:Int) - 1 < (↑n:Int)) then (bif qR3 ts (Int.toNat (0:Int)) then (bif qR3 ts eh.toNat then (bif decide (0 < (↑n2:Int)) then (bif aL b1 a7 bx&&aL b2 bD b0&&(ab.ok (ag a7) (ag bx)&&ab.ok (ag bD) (ag b0)) then (bif decide (0 < ab.cq (ab.qv (ar b1) (ag a7) (ag bx)) (ab.qv (ar b2) (ag bD) (ag b0))) then (bif decide (0 < (↑n2:Int)) then (bif qR3 us (Int.toNat (0:Int)) then (bif ah IntKind.i64 Z then (bif decide (0≤(↑n2:Int) - 1)&&decide ((↑n2:Int) - 1 < (↑n2:Int)) then (bif qR3 us Z.toNat then (bif aL a1 I J&&aL a6 M O&&(ab.ok (ag I) (ag J)&&ab.ok (ag M) (ag O)) then (bif decide (ab.cq (ab.qv (ar a1) (ag I) (ag J)) (ab.qv (ar a6) (ag M) (ag O)) < 0) then (bif qR3 us Z.toNat then (bif ah IntKind.i64 (0+(↑n:Int)) then (bif ah IntKind.i64 hf then (bif ah IntKind.i64 ec then (bif decide ((0:Int) < (0:Int)+(↑n:Int)+(↑n2:Int) - 0) then (bif decide ((0:Int) < (0:Int)+(↑n:Int)+(↑n2:Int) - 0)&&aQ Tryz.prog ec.toNat 27&&true&&true then (bif aw 3 n (af 3 ts) then (bif aQ Tryz.prog (0+n) 27&&(an.vals aE).bJ then (bif aw 3 n2 (af 3 us) then (bif decide ((0+n)*3≤(an.vals aE).len)&&aQ Tryz.prog (0+n+n2) 27&&(an.vals U).bJ then (bif b3 (0+n+n2) ed (0:Int) b1 a7 bx a1 I J eb then (bif G.so b7.fst b7.snd.snd then (bif G.co b7.fst ek then (bif b4 (G.cn b7.fst ek) (1:Int) (G.cv b7.fst ek) then (bif decide (0+e5.fst*6≤(an.vals e5.snd.snd).len) then some (.tup [(.lst false 52 (e5.fst) (dL (an.vals e5.snd.snd) [] 0 6)),(.val (.int .i64 0))]) else none) else none) else none) else none) else none) else none) else none) else none) else none) else none) else (bif aw 3 n (af 3 ts) then (bif decide (n=0) then (bif aw 3 n2 (af 3 us) then (bif decide (n2=0) then none else (bif aQ Tryz.prog n2 27 then (bif b3 n2 (↑n2:Int) (0:Int) b1 a7 bx a1 I J U then (bif G.so c7.fst c7.snd.snd then (bif G.co c7.fst en then (bif b4 (G.cn c7.fst en) (1:Int) (G.cv c7.fst en) then (bif decide (0+e6.fst*6≤(an.vals e6.snd.snd).len) then some (.tup [(.lst false 52 (e6.fst) (dL (an.vals e6.snd.snd) [] 0 6)),(.val (.int .i64 0))]) else none) else none) else none) else none) else none) else none)) else none) else (bif aQ Tryz.prog n 27 then (bif aw 3 n2 (af 3 us) then (bif decide (n*3≤(an.vals aE).len)&&aQ Tryz.prog (n+n2) 27&&(an.vals U).bJ then (bif b3 (n+n2) (↑(n+n2):Int) (0:Int) b1 a7 bx a1 I J eg then (bif G.so c3.fst c3.snd.snd then (bif G.co c3.fst eo then (bif b4 (G.cn c3.fst eo) (1:Int) (G.cv c3.fst eo) then (bif decide (0+e7.fst*6≤(an.vals e7.snd.snd).len) then some (.tup [(.lst false 52 (e7.fst) (dL (an.vals e7.snd.snd) [] 0 6)),(.val (.int .i64 0))]) else none) else none) else none) else none) else none) else none) else none) else none)) else none)) else none) else none) else none) else none) else (bif ah IntKind.i64 (0+(↑n:Int)) then (bif ah IntKind.i64 hf then (bif ah IntKind.i64 ec then (bif decide ((0:Int) < (0:Int)+(↑n:Int)+(↑n2:Int) - 0) then (bif decide ((0:Int) < (0:Int)+(↑n:Int)+(↑n2:Int) - 0)&&aQ Tryz.prog ec.toNat 27&&true&&true then (bif aw 3 n (af 3 ts) then (bif aQ Tryz.prog (0+n) 27&&(an.vals aE).bJ then (bif aw 3 n2 (af 3 us) then (bif decide ((0+n)*3≤(an.vals aE).len)&&aQ Tryz.prog (0+n+n2) 27&&(an.vals U).bJ then (bif b3 (0+n+n2) ed (0:Int) b1 a7 bx a6 M O eb then (bif G.so ch.fst ch.snd.snd then (bif G.co ch.fst ep then (bif b4 (G.cn ch.fst ep) (1:Int) (G.cv ch.fst ep) then (bif decide (0+fa.fst*6≤(an.vals fa.snd.snd).len) then some (.tup [(.lst false 52 (fa.fst) (dL (an.vals fa.snd.snd) [] 0 6)),(.val (.int .i64 0))]) else none) else none) else none) else none) else none) else none) else none) else none) else none) else none) else (bif aw 3 n (af 3 ts) then (bif decide (n=0) then (bif aw 3 n2 (af 3 us) then (bif decide (n2=0) then none else (bif aQ Tryz.prog n2 27 then (bif b3 n2 (↑n2:Int) (0:Int) b1 a7 bx a6 M O U then (bif G.so dx.fst dx.snd.snd then (bif G.co dx.fst et then (bif b4 (G.cn dx.fst et) (1:Int) (G.cv dx.fst et) then (bif decide (0+fc.fst*6≤(an.vals fc.snd.snd).len) then some (.tup [(.lst false 52 (fc.fst) (dL (an.vals fc.snd.snd) [] 0 6)),(.val (.int .i64 0))]) else none) else none) else none) else none) else none) else none)) else none) else (bif aQ Tryz.prog n 27 then (bif aw 3 n2 (af 3 us) then (bif decide (n*3≤(an.vals aE).len)&&aQ Tryz.prog (n+n2) 27&&(an.vals U).bJ then (bif b3 (n+n2) (↑(n+n2):Int) (0:Int) b1 a7 bx a6 M O eg then (bif G.so c4.fst c4.snd.snd then (bif G.co c4.fst eu then (bif b4 (G.cn c4.fst eu) (1:Int) (G.cv c4.fst eu) then (bif decide (0+fh.fst*6≤(an.vals fh.snd.snd).len) then some (.tup [(.lst false 52 (fh.fst) (dL (an.vals fh.snd.snd) [] 0 6)),(.val (.int .i64 0))]) else none) else none) else none) else none) else none) else none) else none) else none)) else none)) else none) else none) else none)) else none) else none) else none) else none) else none) else none) else (bif ah IntKind.i64 Z then (bif decide (0≤(↑n2:Int) - 1)&&decide ((↑n2:Int) - 1 < (↑n2:Int)) then (bif qR3 us Z.toNat then (bif aL a1 I J&&aL a6 M O&&(ab.ok (ag I) (ag J)&&ab.ok (ag M) (ag O)) then (bif decide (ab.cq (ab.qv (ar a1) (ag I) (ag J)) (ab.qv (ar a6) (ag M) (ag O)) < 0) then (bif qR3 us Z.toNat then (bif ah IntKind.i64 (0+(↑n:Int)) then (bif ah IntKind.i64 hf then (bif ah IntKind.i64 ec then (bif decide ((0:Int) < (0:Int)+(↑n:Int)+(↑n2:Int) - 0) then (bif decide ((0:Int) < (0:Int)+(↑n:Int)+(↑n2:Int) - 0)&&aQ Tryz.prog ec.toNat 27&&true&&true then (bif aw 3 n (af 3 ts) then (bif aQ Tryz.prog (0+n) 27&&(an.vals aE).bJ then (bif aw 3 n2 (af 3 us) then (bif decide ((0+n)*3≤(an.vals aE).len)&&aQ Tryz.prog (0+n+n2) 27&&(an.vals U).bJ then (bif b3 (0+n+n2) ed (0:Int) b2 bD b0 a1 I J eb then (bif G.so ct.fst ct.snd.snd then (bif G.co ct.fst ev then (bif b4 (G.cn ct.fst ev) (1:Int) (G.cv ct.fst ev) then (bif decide (0+fs.fst*6≤(an.vals fs.snd.snd).len) then some (.tup [(.lst false 52 (fs.fst) (dL (an.vals fs.snd.snd) [] 0 6)),(.val (.int .i64 0))]) else none) else none) else none) else none) else none) else none) else none) else none) else none) else none) else (bif aw 3 n (af 3 ts) then (bif decide (n=0) then (bif aw 3 n2 (af 3 us) then (bif decide (n2=0) then none else (bif aQ Tryz.prog n2 27 then (bif b3 n2 (↑n2:Int) (0:Int) b2 bD b0 a1 I J U then (bif G.so dy.fst dy.snd.snd then (bif G.co dy.fst ez then (bif b4 (G.cn dy.fst ez) (1:Int) (G.cv dy.fst ez) then (bif decide (0+fv.fst*6≤(an.vals fv.snd.snd).len) then some (.tup [(.lst false 52 (fv.fst) (dL (an.vals fv.snd.snd) [] 0 6)),(.val (.int .i64 0))]) else none) else none) else none) else none) else none) else none)) else none) else (bif aQ Tryz.prog n 27 then (bif aw 3 n2 (af 3 us) then (bif decide (n*3≤(an.vals aE).len)&&aQ Tryz.prog (n+n2) 27&&(an.vals U).bJ then (bif b3 (n+n2) (↑(n+n2):Int) (0:Int) b2 bD b0 a1 I J eg then (bif G.so c5.fst c5.snd.snd then (bif G.co c5.fst eN then (bif b4 (G.cn c5.fst eN) (1:Int) (G.cv c5.fst eN) then (bif decide (0+gf.fst*6≤(an.vals gf.snd.snd).len) then some (.tup [(.lst false 52 (gf.fst) (dL (an.vals gf.snd.snd) [] 0 6)),(.val (.int .i64 0))]) else none) else none) else none) else none) else none) else none) else none) else none)) else none)) else none) else none) else none) else none) else (bif ah IntKind.i64 (0+(↑n:Int)) then (bif ah IntKind.i64 hf then (bif ah IntKind.i64 ec then (bif decide ((0:Int) < (0:Int)+(↑n:Int)+(↑n2:Int) - 0) then (bif decide ((0:Int) < (0:Int)+(↑n:Int)+(↑n2:Int) - 0)&&aQ Tryz.prog ec.toNat 27&&true&&true then (bif aw 3 n (af 3 ts) then (bif aQ Tryz.prog (0+n) 27&&(an.vals aE).bJ then (bif aw 3 n2 (af 3 us) then (bif decide ((0+n)*3≤(an.vals aE).len)&&aQ Tryz.prog (0+n+n2) 27&&(an.vals U).bJ then (bif b3 (0+n+n2) ed (0:Int) b2 bD b0 a6 M O eb then (bif G.so c0.fst c0.snd.snd then (bif G.co c0.fst e2 then (bif b4 (G.cn c0.fst e2) (1:Int) (G.cv c0.fst e2) then (bif decide (0+gn.fst*6≤(an.vals gn.snd.snd).len) then some (.tup [(.lst false 52 (gn.fst) (dL (an.vals gn.snd.snd) [] 0 6)),(.val (.int .i64 0))]) else none) else none) else none) else none) else none) else none) else none) else none) else none) else none) else (bif aw 3 n (af 3 ts) then (bif decide (n=0) then (bif aw 3 n2 (af 3 us) then (bif decide (n2=0) then none else (bif aQ Tryz.prog n2 27 then (bif b3 n2 (↑n2:Int) (0:Int) b2 bD b0 a6 M O U then (bif G.so ea.fst ea.snd.snd then (bif G.co ea.fst e3 then (bif b4 (G.cn ea.fst e3) (1:Int) (G.cv ea.fst e3) then (bif decide (0+hc.fst*6≤(an.vals hc.snd.snd).len) then some (.tup [(.lst false 52 (hc.fst) (dL (an.vals hc.snd.snd) [] 0 6)),(.val (.int .i64 0))]) else none) else none) else none) else none) else none) else none)) else none) else (bif aQ Tryz.prog n 27 then (bif aw 3 n2 (af 3 us) then (bif decide (n*3≤(an.vals aE).len)&&aQ Tryz.prog (n+n2) 27&&(an.vals U).bJ then (bif b3 (n+n2) (↑(n+n2):Int) (0:Int) b2 bD b0 a6 M O eg then (bif G.so c6.fst c6.snd.snd then (bif G.co c6.fst e4 then (bif b4 (G.cn c6.fst e4) (1:Int) (G.cv c6.fst e4) then (bif decide (0+hd.fst*6≤(an.vals hd.snd.snd).len) then some (.tup [(.lst false 52 (hd.fst) (dL (an.vals hd.snd.snd) [] 0 6)),(.val (.int .i64 0))]) else none) else none) else none) else none) else none) else none) else none) else none)) else none)) else none) else none) else none)) else none) else none) else none) else none)) else none) else none) else none) else none) else none) else none) else none)) else none)) else none)):=by kernel_rfl
theorem XB (C:Cg) (ab:Qg) (b5:Mg) (b3:AO) (b4:Au) (n:Nat) (ts:List Value) (m:Nat) (ps:List Value) (n2:Nat) (us:List Value) (m2:Nat) (qs:List Value):letI Z:=((↑n2:Int) - 1);letI c0:=((↑n:Int) - 1);letI J:=(ts.getD (c0.toNat*3+1) undef);letI M:=(ts.getD (c0.toNat*3+2) undef);letI aE:=(ai 3 n (af 3 ts));letI ch:=(List.take ((0+n)*3) aE ++ ai 3 n2 (af 3 us));letI a1:=(ts.getD (c0.toNat*3+0) undef);letI ct:=(List.take (n*3) aE ++ ai 3 n2 (af 3 us));letI O:=(us.getD (Z.toNat*3+1) undef);letI U:=(us.getD (Z.toNat*3+2) undef);letI a6:=(us.getD (Z.toNat*3+0) undef);letI G:=(Mg.mk b5.so b5.sv b5.co (fun x ek=>1) b5.cv);letI I:=(ai 3 n2 (af 3 us));letI a7:=(us.getD 1 undef);letI bx:=(us.getD 2 undef);letI bD:=(ts.getD 1 undef);letI b0:=(ts.getD 2 undef);letI b1:=(us.getD 0 undef);letI b2:=(ts.getD 0 undef);letI b6:=(↑(0+n+n2):Int);letI b7:=(0+(↑n:Int)+(↑n2:Int) - 0);letI c3:=(b4 (n+n2) (↑(n+n2):Int) (0:Int) b1 a7 bx a6 O U ct);letI c4:=(b4 (n+n2) (↑(n+n2):Int) (0:Int) b1 a7 bx a1 J M ct);letI c5:=(b4 (n+n2) (↑(n+n2):Int) (0:Int) b2 bD b0 a6 O U ct);letI c6:=(b4 (n+n2) (↑(n+n2):Int) (0:Int) b2 bD b0 a1 J M ct);letI c7:=(b4 (0+n+n2) b6 (0:Int) b1 a7 bx a6 O U ch);letI dx:=(b4 (0+n+n2) b6 (0:Int) b1 a7 bx a1 J M ch);letI dy:=(b4 (0+n+n2) b6 (0:Int) b2 bD b0 a6 O U ch);letI ea:=(b4 (0+n+n2) b6 (0:Int) b2 bD b0 a1 J M ch);letI eb:=(b4 n2 (↑n2:Int) (0:Int) b1 a7 bx a6 O U I);letI ec:=(b4 n2 (↑n2:Int) (0:Int) b1 a7 bx a1 J M I);letI ed:=(b4 n2 (↑n2:Int) (0:Int) b2 bD b0 a6 O U I);letI eg:=(b4 n2 (↑n2:Int) (0:Int) b2 bD b0 a1 J M I);letI eh:=(0+(↑n:Int)+(↑n2:Int));
  (aG Tryz.prog ⟨lZ C ab,qp,ox b3 b4 (nr ⟨b5.so,b5.sv,b5.co,fun _ _=>1,b5.cv⟩ aq)⟩ 10 10 24 [bO n ts m ps,bO n2 us m2 qs]=(bif aw 3 n (af 3 ts)&&aw 6 m (af 6 ps)&&C.ko n aE m (ai 6 m (af 6 ps)) then (bif !decide (C.ck n aE m (ai 6 m (af 6 ps))=0) then some (.tup [(.val (.slice .none 0 0)),(.val (.int .i64 1))]) else (bif aw 3 n2 (af 3 us)&&aw 6 m2 (af 6 qs)&&C.ko n2 I m2 (ai 6 m2 (af 6 qs)) then (bif !decide (C.ck n2 I m2 (ai 6 m2 (af 6 qs))=0) then some (.tup [(.val (.slice .none 0 0)),(.val (.int .i64 1))]) else (bif decide (0 < (↑n:Int)) then (bif ah IntKind.i64 c0 then (bif decide (0≤(↑n:Int) - 1)&&decide ((↑n:Int) - 1 < (↑n:Int)) then (bif qR3 ts (Int.toNat (0:Int)) then (bif qR3 ts c0.toNat then (bif decide (0 < (↑n2:Int)) then (bif aL b1 a7 bx&&aL b2 bD b0&&(ab.ok (ag a7) (ag bx)&&ab.ok (ag bD) (ag b0)) then (bif decide (0 < ab.cq (ab.qv (ar b1) (ag a7) (ag bx)) (ab.qv (ar b2) (ag bD) (ag b0))) then (bif decide (0 < (↑n2:Int)) then (bif qR3 us (Int.toNat (0:Int)) then (bif ah IntKind.i64 Z then (bif decide (0≤(↑n2:Int) - 1)&&decide ((↑n2:Int) - 1 < (↑n2:Int)) then (bif qR3 us Z.toNat then (bif aL a6 O U&&aL a1 J M&&(ab.ok (ag O) (ag U)&&ab.ok (ag J) (ag M)) then (bif decide (ab.cq (ab.qv (ar a6) (ag O) (ag U)) (ab.qv (ar a1) (ag J) (ag M)) < 0) then (bif qR3 us Z.toNat then (bif ah IntKind.i64 (0+(↑n:Int)) then (bif ah IntKind.i64 eh then (bif ah IntKind.i64 b7 then (bif decide ((0:Int) < (0:Int)+(↑n:Int)+(↑n2:Int) - 0) then (bif decide ((0:Int) < (0:Int)+(↑n:Int)+(↑n2:Int) - 0)&&aQ Tryz.prog b7.toNat 27&&true&&true then (bif aw 3 n (af 3 ts) then (bif aQ Tryz.prog (0+n) 27&&(an.vals aE).bJ then (bif aw 3 n2 (af 3 us) then (bif decide ((0+n)*3≤(an.vals aE).len)&&aQ Tryz.prog (0+n+n2) 27&&(an.vals I).bJ then (bif b3 (0+n+n2) b6 (0:Int) b1 a7 bx a6 O U ch then (bif G.so c7.fst c7.snd.snd then (bif G.co c7.fst (G.sv c7.fst c7.snd.snd) then some (.tup [(.val (.slice .none 0 0)),(.val (.int .i64 0))]) else none) else none) else none) else none) else none) else none) else none) else none) else (bif aw 3 n (af 3 ts) then (bif decide (n=0) then (bif aw 3 n2 (af 3 us) then (bif decide (n2=0) then none else (bif aQ Tryz.prog n2 27 then (bif b3 n2 (↑n2:Int) (0:Int) b1 a7 bx a6 O U I then (bif G.so eb.fst eb.snd.snd then (bif G.co eb.fst (G.sv eb.fst eb.snd.snd) then some (.tup [(.val (.slice .none 0 0)),(.val (.int .i64 0))]) else none) else none) else none) else none)) else none) else (bif aQ Tryz.prog n 27 then (bif aw 3 n2 (af 3 us) then (bif decide (n*3≤(an.vals aE).len)&&aQ Tryz.prog (n+n2) 27&&(an.vals I).bJ then (bif b3 (n+n2) (↑(n+n2):Int) (0:Int) b1 a7 bx a6 O U ct then (bif G.so c3.fst c3.snd.snd then (bif G.co c3.fst (G.sv c3.fst c3.snd.snd) then some (.tup [(.val (.slice .none 0 0)),(.val (.int .i64 0))]) else none) else none) else none) else none) else none) else none)) else none)) else none) else none) else none) else none) else (bif ah IntKind.i64 (0+(↑n:Int)) then (bif ah IntKind.i64 eh then (bif ah IntKind.i64 b7 then (bif decide ((0:Int) < (0:Int)+(↑n:Int)+(↑n2:Int) - 0) then (bif decide ((0:Int) < (0:Int)+(↑n:Int)+(↑n2:Int) - 0)&&aQ Tryz.prog b7.toNat 27&&true&&true then (bif aw 3 n (af 3 ts) then (bif aQ Tryz.prog (0+n) 27&&(an.vals aE).bJ then (bif aw 3 n2 (af 3 us) then (bif decide ((0+n)*3≤(an.vals aE).len)&&aQ Tryz.prog (0+n+n2) 27&&(an.vals I).bJ then (bif b3 (0+n+n2) b6 (0:Int) b1 a7 bx a1 J M ch then (bif G.so dx.fst dx.snd.snd then (bif G.co dx.fst (G.sv dx.fst dx.snd.snd) then some (.tup [(.val (.slice .none 0 0)),(.val (.int .i64 0))]) else none) else none) else none) else none) else none) else none) else none) else none) else (bif aw 3 n (af 3 ts) then (bif decide (n=0) then (bif aw 3 n2 (af 3 us) then (bif decide (n2=0) then none else (bif aQ Tryz.prog n2 27 then (bif b3 n2 (↑n2:Int) (0:Int) b1 a7 bx a1 J M I then (bif G.so ec.fst ec.snd.snd then (bif G.co ec.fst (G.sv ec.fst ec.snd.snd) then some (.tup [(.val (.slice .none 0 0)),(.val (.int .i64 0))]) else none) else none) else none) else none)) else none) else (bif aQ Tryz.prog n 27 then (bif aw 3 n2 (af 3 us) then (bif decide (n*3≤(an.vals aE).len)&&aQ Tryz.prog (n+n2) 27&&(an.vals I).bJ then (bif b3 (n+n2) (↑(n+n2):Int) (0:Int) b1 a7 bx a1 J M ct then (bif G.so c4.fst c4.snd.snd then (bif G.co c4.fst (G.sv c4.fst c4.snd.snd) then some (.tup [(.val (.slice .none 0 0)),(.val (.int .i64 0))]) else none) else none) else none) else none) else none) else none)) else none)) else none) else none) else none)) else none) else none) else none) else none) else none) else none) else (bif ah IntKind.i64 Z then (bif decide (0≤(↑n2:Int) - 1)&&decide ((↑n2:Int) - 1 < (↑n2:Int)) then (bif qR3 us Z.toNat then (bif aL a6 O U&&aL a1 J M&&(ab.ok (ag O) (ag U)&&ab.ok (ag J) (ag M)) then (bif decide (ab.cq (ab.qv (ar a6) (ag O) (ag U)) (ab.qv (ar a1) (ag J) (ag M)) < 0) then (bif qR3 us Z.toNat then (bif ah IntKind.i64 (0+(↑n:Int)) then (bif ah IntKind.i64 eh then (bif ah IntKind.i64 b7 then (bif decide ((0:Int) < (0:Int)+(↑n:Int)+(↑n2:Int) - 0) then (bif decide ((0:Int) < (0:Int)+(↑n:Int)+(↑n2:Int) - 0)&&aQ Tryz.prog b7.toNat 27&&true&&true then (bif aw 3 n (af 3 ts) then (bif aQ Tryz.prog (0+n) 27&&(an.vals aE).bJ then (bif aw 3 n2 (af 3 us) then (bif decide ((0+n)*3≤(an.vals aE).len)&&aQ Tryz.prog (0+n+n2) 27&&(an.vals I).bJ then (bif b3 (0+n+n2) b6 (0:Int) b2 bD b0 a6 O U ch then (bif G.so dy.fst dy.snd.snd then (bif G.co dy.fst (G.sv dy.fst dy.snd.snd) then some (.tup [(.val (.slice .none 0 0)),(.val (.int .i64 0))]) else none) else none) else none) else none) else none) else none) else none) else none) else (bif aw 3 n (af 3 ts) then (bif decide (n=0) then (bif aw 3 n2 (af 3 us) then (bif decide (n2=0) then none else (bif aQ Tryz.prog n2 27 then (bif b3 n2 (↑n2:Int) (0:Int) b2 bD b0 a6 O U I then (bif G.so ed.fst ed.snd.snd then (bif G.co ed.fst (G.sv ed.fst ed.snd.snd) then some (.tup [(.val (.slice .none 0 0)),(.val (.int .i64 0))]) else none) else none) else none) else none)) else none) else (bif aQ Tryz.prog n 27 then (bif aw 3 n2 (af 3 us) then (bif decide (n*3≤(an.vals aE).len)&&aQ Tryz.prog (n+n2) 27&&(an.vals I).bJ then (bif b3 (n+n2) (↑(n+n2):Int) (0:Int) b2 bD b0 a6 O U ct then (bif G.so c5.fst c5.snd.snd then (bif G.co c5.fst (G.sv c5.fst c5.snd.snd) then some (.tup [(.val (.slice .none 0 0)),(.val (.int .i64 0))]) else none) else none) else none) else none) else none) else none)) else none)) else none) else none) else none) else none) else (bif ah IntKind.i64 (0+(↑n:Int)) then (bif ah IntKind.i64 eh then (bif ah IntKind.i64 b7 then (bif decide ((0:Int) < (0:Int)+(↑n:Int)+(↑n2:Int) - 0) then (bif decide ((0:Int) < (0:Int)+(↑n:Int)+(↑n2:Int) - 0)&&aQ Tryz.prog b7.toNat 27&&true&&true then (bif aw 3 n (af 3 ts) then (bif aQ Tryz.prog (0+n) 27&&(an.vals aE).bJ then (bif aw 3 n2 (af 3 us) then (bif decide ((0+n)*3≤(an.vals aE).len)&&aQ Tryz.prog (0+n+n2) 27&&(an.vals I).bJ then (bif b3 (0+n+n2) b6 (0:Int) b2 bD b0 a1 J M ch then (bif G.so ea.fst ea.snd.snd then (bif G.co ea.fst (G.sv ea.fst ea.snd.snd) then some (.tup [(.val (.slice .none 0 0)),(.val (.int .i64 0))]) else none) else none) else none) else none) else none) else none) else none) else none) else (bif aw 3 n (af 3 ts) then (bif decide (n=0) then (bif aw 3 n2 (af 3 us) then (bif decide (n2=0) then none else (bif aQ Tryz.prog n2 27 then (bif b3 n2 (↑n2:Int) (0:Int) b2 bD b0 a1 J M I then (bif G.so eg.fst eg.snd.snd then (bif G.co eg.fst (G.sv eg.fst eg.snd.snd) then some (.tup [(.val (.slice .none 0 0)),(.val (.int .i64 0))]) else none) else none) else none) else none)) else none) else (bif aQ Tryz.prog n 27 then (bif aw 3 n2 (af 3 us) then (bif decide (n*3≤(an.vals aE).len)&&aQ Tryz.prog (n+n2) 27&&(an.vals I).bJ then (bif b3 (n+n2) (↑(n+n2):Int) (0:Int) b2 bD b0 a1 J M ct then (bif G.so c6.fst c6.snd.snd then (bif G.co c6.fst (G.sv c6.fst c6.snd.snd) then some (.tup [(.val (.slice .none 0 0)),(.val (.int .i64 0))]) else none) else none) else none) else none) else none) else none)) else none)) else none) else none) else none)) else none) else none) else none) else none)) else none) else none) else none) else none) else none) else none) else none)) else none)) else none)):=by kernel_rfl
theorem XA (C:Cg) (I:Qg) (O:Ie) (ch:HG) (n:Nat) (ts:List Value) (m:Nat) (ps:List Value) (n2:Nat) (us:List Value) (m2:Nat) (qs:List Value):letI G:=((↑n2:Int) - 1);letI b4:=((↑n:Int) - 1);letI U:=(ts.getD (b4.toNat*3+1) undef);letI Z:=(ts.getD (b4.toNat*3+2) undef);letI J:=(ai 3 n (af 3 ts));letI a1:=(ts.getD (b4.toNat*3+0) undef);letI ab:=(us.getD (G.toNat*3+1) undef);letI aE:=(us.getD (G.toNat*3+2) undef);letI M:=(ai 3 n2 (af 3 us));letI a6:=(us.getD (G.toNat*3+0) undef);letI b1:=(0+(↑n:Int)+(↑n2:Int) - 0);letI b5:=(List.take ((0+n)*3) J ++ ai 3 n2 (af 3 us));letI b6:=(List.take (n*3) J ++ ai 3 n2 (af 3 us));letI a7:=(us.getD 1 undef);letI bx:=(us.getD 2 undef);letI bD:=(ts.getD 1 undef);letI b0:=(ts.getD 2 undef);letI b2:=(us.getD 0 undef);letI b3:=(ts.getD 0 undef);letI b7:=(0+(↑n:Int)+(↑n2:Int));
  (aG Tryz.prog ⟨lZ C I,az,Bl O ch aq⟩ 10 10 24 [bO n ts m ps,bO n2 us m2 qs]=(bif aw 3 n (af 3 ts)&&aw 6 m (af 6 ps)&&C.ko n J m (ai 6 m (af 6 ps)) then (bif !decide (C.ck n J m (ai 6 m (af 6 ps))=0) then some (.tup [(.val (.slice .none 0 0)),(.val (.int .i64 1))]) else (bif aw 3 n2 (af 3 us)&&aw 6 m2 (af 6 qs)&&C.ko n2 M m2 (ai 6 m2 (af 6 qs)) then (bif !decide (C.ck n2 M m2 (ai 6 m2 (af 6 qs))=0) then some (.tup [(.val (.slice .none 0 0)),(.val (.int .i64 1))]) else (bif decide (0 < (↑n:Int)) then (bif ah IntKind.i64 b4 then (bif decide (0≤(↑n:Int) - 1)&&decide ((↑n:Int) - 1 < (↑n:Int)) then (bif qR3 ts (Int.toNat (0:Int)) then (bif qR3 ts b4.toNat then (bif decide (0 < (↑n2:Int)) then (bif aL b2 a7 bx&&aL b3 bD b0&&(I.ok (ag a7) (ag bx)&&I.ok (ag bD) (ag b0)) then (bif decide (0 < I.cq (I.qv (ar b2) (ag a7) (ag bx)) (I.qv (ar b3) (ag bD) (ag b0))) then (bif decide (0 < (↑n2:Int)) then (bif qR3 us (Int.toNat (0:Int)) then (bif ah IntKind.i64 G then (bif decide (0≤(↑n2:Int) - 1)&&decide ((↑n2:Int) - 1 < (↑n2:Int)) then (bif qR3 us G.toNat then (bif aL a6 ab aE&&aL a1 U Z&&(I.ok (ag ab) (ag aE)&&I.ok (ag U) (ag Z)) then (bif decide (I.cq (I.qv (ar a6) (ag ab) (ag aE)) (I.qv (ar a1) (ag U) (ag Z)) < 0) then (bif qR3 us G.toNat then (bif ah IntKind.i64 (0+(↑n:Int)) then (bif ah IntKind.i64 b7 then (bif ah IntKind.i64 b1 then (bif decide ((0:Int) < (0:Int)+(↑n:Int)+(↑n2:Int) - 0) then (bif decide ((0:Int) < (0:Int)+(↑n:Int)+(↑n2:Int) - 0)&&aQ Tryz.prog b1.toNat 27&&true&&true then (bif aw 3 n (af 3 ts) then (bif aQ Tryz.prog (0+n) 27&&(an.vals J).bJ then (bif aw 3 n2 (af 3 us) then (bif decide ((0+n)*3≤(an.vals J).len)&&aQ Tryz.prog (0+n+n2) 27&&(an.vals M).bJ then (bif O (0+n+n2) (↑(0+n+n2):Int) (0:Int) b2 a7 bx a6 ab aE b5 then some (.tup [(.val (.slice .none 0 0)),(.val (.int .i64 0))]) else none) else none) else none) else none) else none) else none) else (bif aw 3 n (af 3 ts) then (bif decide (n=0) then (bif aw 3 n2 (af 3 us) then (bif decide (n2=0) then none else (bif aQ Tryz.prog n2 27 then (bif O n2 (↑n2:Int) (0:Int) b2 a7 bx a6 ab aE M then some (.tup [(.val (.slice .none 0 0)),(.val (.int .i64 0))]) else none) else none)) else none) else (bif aQ Tryz.prog n 27 then (bif aw 3 n2 (af 3 us) then (bif decide (n*3≤(an.vals J).len)&&aQ Tryz.prog (n+n2) 27&&(an.vals M).bJ then (bif O (n+n2) (↑(n+n2):Int) (0:Int) b2 a7 bx a6 ab aE b6 then some (.tup [(.val (.slice .none 0 0)),(.val (.int .i64 0))]) else none) else none) else none) else none)) else none)) else none) else none) else none) else none) else (bif ah IntKind.i64 (0+(↑n:Int)) then (bif ah IntKind.i64 b7 then (bif ah IntKind.i64 b1 then (bif decide ((0:Int) < (0:Int)+(↑n:Int)+(↑n2:Int) - 0) then (bif decide ((0:Int) < (0:Int)+(↑n:Int)+(↑n2:Int) - 0)&&aQ Tryz.prog b1.toNat 27&&true&&true then (bif aw 3 n (af 3 ts) then (bif aQ Tryz.prog (0+n) 27&&(an.vals J).bJ then (bif aw 3 n2 (af 3 us) then (bif decide ((0+n)*3≤(an.vals J).len)&&aQ Tryz.prog (0+n+n2) 27&&(an.vals M).bJ then (bif O (0+n+n2) (↑(0+n+n2):Int) (0:Int) b2 a7 bx a1 U Z b5 then some (.tup [(.val (.slice .none 0 0)),(.val (.int .i64 0))]) else none) else none) else none) else none) else none) else none) else (bif aw 3 n (af 3 ts) then (bif decide (n=0) then (bif aw 3 n2 (af 3 us) then (bif decide (n2=0) then none else (bif aQ Tryz.prog n2 27 then (bif O n2 (↑n2:Int) (0:Int) b2 a7 bx a1 U Z M then some (.tup [(.val (.slice .none 0 0)),(.val (.int .i64 0))]) else none) else none)) else none) else (bif aQ Tryz.prog n 27 then (bif aw 3 n2 (af 3 us) then (bif decide (n*3≤(an.vals J).len)&&aQ Tryz.prog (n+n2) 27&&(an.vals M).bJ then (bif O (n+n2) (↑(n+n2):Int) (0:Int) b2 a7 bx a1 U Z b6 then some (.tup [(.val (.slice .none 0 0)),(.val (.int .i64 0))]) else none) else none) else none) else none)) else none)) else none) else none) else none)) else none) else none) else none) else none) else none) else none) else (bif ah IntKind.i64 G then (bif decide (0≤(↑n2:Int) - 1)&&decide ((↑n2:Int) - 1 < (↑n2:Int)) then (bif qR3 us G.toNat then (bif aL a6 ab aE&&aL a1 U Z&&(I.ok (ag ab) (ag aE)&&I.ok (ag U) (ag Z)) then (bif decide (I.cq (I.qv (ar a6) (ag ab) (ag aE)) (I.qv (ar a1) (ag U) (ag Z)) < 0) then (bif qR3 us G.toNat then (bif ah IntKind.i64 (0+(↑n:Int)) then (bif ah IntKind.i64 b7 then (bif ah IntKind.i64 b1 then (bif decide ((0:Int) < (0:Int)+(↑n:Int)+(↑n2:Int) - 0) then (bif decide ((0:Int) < (0:Int)+(↑n:Int)+(↑n2:Int) - 0)&&aQ Tryz.prog b1.toNat 27&&true&&true then (bif aw 3 n (af 3 ts) then (bif aQ Tryz.prog (0+n) 27&&(an.vals J).bJ then (bif aw 3 n2 (af 3 us) then (bif decide ((0+n)*3≤(an.vals J).len)&&aQ Tryz.prog (0+n+n2) 27&&(an.vals M).bJ then (bif O (0+n+n2) (↑(0+n+n2):Int) (0:Int) b3 bD b0 a6 ab aE b5 then some (.tup [(.val (.slice .none 0 0)),(.val (.int .i64 0))]) else none) else none) else none) else none) else none) else none) else (bif aw 3 n (af 3 ts) then (bif decide (n=0) then (bif aw 3 n2 (af 3 us) then (bif decide (n2=0) then none else (bif aQ Tryz.prog n2 27 then (bif O n2 (↑n2:Int) (0:Int) b3 bD b0 a6 ab aE M then some (.tup [(.val (.slice .none 0 0)),(.val (.int .i64 0))]) else none) else none)) else none) else (bif aQ Tryz.prog n 27 then (bif aw 3 n2 (af 3 us) then (bif decide (n*3≤(an.vals J).len)&&aQ Tryz.prog (n+n2) 27&&(an.vals M).bJ then (bif O (n+n2) (↑(n+n2):Int) (0:Int) b3 bD b0 a6 ab aE b6 then some (.tup [(.val (.slice .none 0 0)),(.val (.int .i64 0))]) else none) else none) else none) else none)) else none)) else none) else none) else none) else none) else (bif ah IntKind.i64 (0+(↑n:Int)) then (bif ah IntKind.i64 b7 then (bif ah IntKind.i64 b1 then (bif decide ((0:Int) < (0:Int)+(↑n:Int)+(↑n2:Int) - 0) then (bif decide ((0:Int) < (0:Int)+(↑n:Int)+(↑n2:Int) - 0)&&aQ Tryz.prog b1.toNat 27&&true&&true then (bif aw 3 n (af 3 ts) then (bif aQ Tryz.prog (0+n) 27&&(an.vals J).bJ then (bif aw 3 n2 (af 3 us) then (bif decide ((0+n)*3≤(an.vals J).len)&&aQ Tryz.prog (0+n+n2) 27&&(an.vals M).bJ then (bif O (0+n+n2) (↑(0+n+n2):Int) (0:Int) b3 bD b0 a1 U Z b5 then some (.tup [(.val (.slice .none 0 0)),(.val (.int .i64 0))]) else none) else none) else none) else none) else none) else none) else (bif aw 3 n (af 3 ts) then (bif decide (n=0) then (bif aw 3 n2 (af 3 us) then (bif decide (n2=0) then none else (bif aQ Tryz.prog n2 27 then (bif O n2 (↑n2:Int) (0:Int) b3 bD b0 a1 U Z M then some (.tup [(.val (.slice .none 0 0)),(.val (.int .i64 0))]) else none) else none)) else none) else (bif aQ Tryz.prog n 27 then (bif aw 3 n2 (af 3 us) then (bif decide (n*3≤(an.vals J).len)&&aQ Tryz.prog (n+n2) 27&&(an.vals M).bJ then (bif O (n+n2) (↑(n+n2):Int) (0:Int) b3 bD b0 a1 U Z b6 then some (.tup [(.val (.slice .none 0 0)),(.val (.int .i64 0))]) else none) else none) else none) else none)) else none)) else none) else none) else none)) else none) else none) else none) else none)) else none) else none) else none) else none) else none) else none) else none)) else none)) else none)):=by kernel_rfl
end
end Go.Proofs.YtamcpiicmfielaaGreat.L
namespace Go.Proofs.YtamcpiicmfielaaGreat.L
open Go Go.V Go.RowKit Go.Proofs.YtamcpiicmfielaaGreat.Sp
open Go.Proofs (Tryz.prog)
noncomputable section
theorem LF (l:List Rat):(List.range l.length).map (fun j=>l.getD j 0)=l:=by
 apply List.ext_getElem
 ·rw [List.length_map,List.length_range]
 ·intro i I G
  rw [List.getElem_map,List.getElem_range,List.getD_eq_getElem?_getD,List.getElem?_eq_getElem G];rfl
theorem Jm (l:List Rat):aV l=bZ l.length (fun j=>l.getD j 0):=by
 rw [qz,LF]
theorem kU (l:List Rat) {j:Nat} (G:j < l.length):qt (aV l) j=l.getD j 0:=by
 rw [Jm]
 exact aag _ _ G
theorem sN (l:List Rat):aV l=bZ l.length (qt (aV l)):=by
 rw [← SD (q:=fun j=>l.getD j 0) (q':=qt (aV l)) (fun i hi=>(kU l hi).symm)]
 exact Jm l
theorem YV (l:List Rat):(List.range l.length).map (qt (aV l))=l:=by
 have h:(List.range l.length).map (qt (aV l))=(List.range l.length).map (fun j=>l.getD j 0):=List.map_congr_left fun j G=>kU l (List.mem_range.1 G)
 rw [h,LF]
def Zu (m:Nat) (us:List Value):Prop:=us=bZ m (qt us)∧0 < m∧m≤1000∧∀ j,j < m→bk (qt us j)≤1000
def cK:Mg where
 so m us:= @decide (Zu m us) (Classical.propDecidable _)
 sv m us:=aV (((List.range m).map (qt us)).mergeSort qV)
 co m us:= @decide (us=bZ m (qt us)∧m≤1000) (Classical.propDecidable _)
 cn m us:=(aR (qt us) m).length
 cv:=gK
def lz:Mg:= ⟨cK.so,cK.sv,fun m us=> @decide (us=bZ m (qt us)∧m≤1000∧(aR (qt us) m).length=1) (Classical.propDecidable _),fun _ _=>1,gK⟩
theorem wG {L:aD} (M:aC Tryz.prog L) {g:FuncId} {f:List AV→Hp→Option (Bool×AV×Hp)} (G:(match aI Tryz.prog g [] with | some c=> !yi c | none=>false)=true) (h:∀ T H v I,f T H=some (true,v,I)→H.length≤I.length∧df Tryz.prog g T H v I):aC Tryz.prog (oA g f L):=by
 split at G
 ·rename_i c J
  rw [Bool.not_eq_true'] at G
  exact M.oA J G h
 ·cases G
theorem O2 (T:List AV) (H:Hp) (v:AV) (G:Hp) (h:Fw cK T H=some (true,v,G)):H.length≤G.length∧df Tryz.prog 66 T H v G:=by
 unfold Fw at h
 split at h
 ·rename_i t i m c
  split at h
  ·rename_i us a7 O
   rw [Bool.cond_eq_ite] at h
   split at h
   ·rename_i I
    simp only [Bool.and_eq_true,beq_iff_eq] at I
    obtain ⟨⟨rfl,rfl⟩,rfl⟩:=I
    simp only [Option.some.injEq,Prod.mk.injEq] at h
    obtain ⟨M,rfl,rfl⟩:=h
    obtain ⟨k1,a1,a6,aE⟩:= @of_decide_eq_true _ (Classical.propDecidable _) M
    refine ⟨by rw [List.length_set];exact Nat.le_refl _, ?_⟩
    have e:us=aV ((List.range m).map (qt us)):=by rw [← qz];exact k1
    have Z:((List.range m).map (qt us)).length=m:=by rw [List.length_map,List.length_range]
    have J:=abQ (fl:=false) (l:=(List.range m).map (qt us)) (i:=i) (H:=H) (fun x ab=>by
     obtain ⟨j,U,rfl⟩:=List.mem_map.1 ab
     exact aE j (List.mem_range.1 U)) (by omega) (by omega) (by rw [← e];exact O)
    rw [Z] at J
    exact J
   ·cases h
  ·cases h
 ·cases h
theorem acY (T:List AV) (H:Hp) (v:AV) (G:Hp) (h:vO cK T H=some (true,v,G)):H.length≤G.length∧df Tryz.prog 67 T H v G:=by
 unfold vO at h
 split at h
 ·rename_i t i m
  split at h
  ·rename_i us U M
   rw [Bool.cond_eq_ite] at h
   split at h
   ·rename_i I
    simp only [Bool.and_eq_true,beq_iff_eq] at I
    obtain ⟨rfl,rfl⟩:=I
    simp only [Option.some.injEq,Prod.mk.injEq] at h
    obtain ⟨J,rfl,rfl⟩:=h
    obtain ⟨k1,O⟩:= @of_decide_eq_true _ (Classical.propDecidable _) J
    exact ⟨by rw [List.length_set];exact Nat.le_refl _,JC (by omega) k1 M⟩
   ·cases h
  ·cases h
 ·cases h
theorem acZ (T:List AV) (H:Hp) (v:AV) (G:Hp) (h:vO lz T H=some (true,v,G)):H.length≤G.length∧df Tryz.prog 67 T H v G:=by
 unfold vO at h
 split at h
 ·rename_i t i m
  split at h
  ·rename_i us ab O
   rw [Bool.cond_eq_ite] at h
   split at h
   ·rename_i I
    simp only [Bool.and_eq_true,beq_iff_eq] at I
    obtain ⟨rfl,rfl⟩:=I
    simp only [Option.some.injEq,Prod.mk.injEq] at h
    obtain ⟨M,rfl,rfl⟩:=h
    obtain ⟨k1,Z,U⟩:= @of_decide_eq_true _ (Classical.propDecidable _) M
    have J:=JC (by omega) k1 O
    rw [U] at J
    exact ⟨by rw [List.length_set];exact Nat.le_refl _,J⟩
   ·cases h
  ·cases h
 ·cases h
theorem QN {L:aD} (G:aC Tryz.prog L):aC Tryz.prog (nr cK L):=wG (wG G (by kernel_rfl) acY) (by kernel_rfl) O2
theorem QO {L:aD} (G:aC Tryz.prog L):aC Tryz.prog (nr lz L):=wG (wG G (by kernel_rfl) acZ) (by kernel_rfl) O2
def bp (S:Nat→Rat) (lo hi:Rat) (N:Nat):List Rat:=(bz S lo hi N).mergeSort qV
def e8 (S:Nat→Rat) (lo hi:Rat) (N:Nat):List Rat:=aR (qt (aV (bp S lo hi N))) (bp S lo hi N).length
theorem UK {m:Nat} {us:List Value} (a1:m≤1000):sE (aR (qt us) m).length (gK m us)∧∀ j,j < (aR (qt us) m).length→qt (gK m us) j=(aR (qt us) m).getD j 0:=by
 have aE:=BY (S:=qt us) m
 have ab:=BN (aR (qt us) m)
 have G:∀ i c,i < (aR (qt us) m).length→c < 3→(gK m us).getD (i*3+c) undef=(aV (aR (qt us) m)).getD (i*3+c) undef:=fun i c hi Z=>by
  unfold gK
  rw [List.getD_eq_getElem?_getD,List.getD_eq_getElem?_getD,List.getElem?_append_left (by omega)]
 have U:∀ j,j < (aR (qt us) m).length→qt (gK m us) j=(aR (qt us) m).getD j 0:=fun j I=>by
  rw [← kU _ I]
  show ad.qv (ar ((gK m us).getD (j*3+0) undef)) (ag ((gK m us).getD (j*3+1) undef)) (ag ((gK m us).getD (j*3+2) undef))=_
  rw [G j 0 I (by omega),G j 1 I (by omega),G j 2 I (by omega)];rfl
 refine ⟨⟨by omega,by unfold gK;rw [List.length_append];omega,fun i hi=> ?_⟩,U⟩
 obtain ⟨J,M,O⟩:=oJ (sN (aR (qt us) m)) i hi
 rw [kU _ hi,← U i hi] at J M O
 exact ⟨(G i 0 hi (by omega)).trans J,(G i 1 hi (by omega)).trans M,(G i 2 hi (by omega)).trans O⟩
theorem Nh {S G:Nat→Rat} :∀ k,(∀ i,i≤k→S i=G i)→cS S k=cS G k
 | 0,_=>rfl
 | k+1,h=>by
  unfold cS
  rw [Nh k (fun i hi=>h i (by omega)),h k (by omega),h (k+1) (by omega)]
def bY (C:List Rat):List Value:=cS (fun j=>C.getD j 0) (C.length - 1)
theorem qP (S:Nat→Rat) (lo hi x:Rat):∀ j:Nat,x ∈ bz S lo hi j↔∃ i,i < j∧x=S i∧lo≤x∧x≤hi
 | 0=>Iff.intro (fun h=>by cases h) (fun h=>by obtain ⟨i,h,_⟩:=h;omega)
 | j+1=>by
  have I:=qP S lo hi x j
  unfold bz
  constructor
  ·intro h
   split at h
   ·rename_i U
    rcases List.mem_append.1 h with h | h
    ·obtain ⟨i,J,G⟩:=I.1 h
     exact ⟨i,by omega,G⟩
    ·obtain rfl:=List.mem_singleton.1 h
     exact ⟨j,by omega,rfl,U.1,U.2⟩
   ·obtain ⟨i,J,G⟩:=I.1 h
    exact ⟨i,by omega,G⟩
  ·rintro ⟨i,J,rfl,M,O⟩
   by_cases Z:i=j
   ·subst Z
    rw [if_pos ⟨M,O⟩]
    exact List.mem_append_right _ (List.mem_singleton.2 rfl)
   ·have:=I.2 ⟨i,by omega,rfl,M,O⟩
    split
    ·exact List.mem_append_left _ this
    ·exact this
theorem K9 {N:Nat} {cs:List Value} {w1 w2 w3 z1 z2 z3:Value} (h:ib N cs w1 w2 w3 z1 z2 z3) (J:bz (qt cs) (rv w1 w2 w3) (rv z1 z2 z3) N≠ []):
  jl N N 0 w1 w2 w3 z1 z2 z3 cs=true∧cK.so (cR N N 0 w1 w2 w3 z1 z2 z3 cs).1 (cR N N 0 w1 w2 w3 z1 z2 z3 cs).2.2=true∧
  cK.sv (cR N N 0 w1 w2 w3 z1 z2 z3 cs).1 (cR N N 0 w1 w2 w3 z1 z2 z3 cs).2.2=aV (bp (qt cs) (rv w1 w2 w3) (rv z1 z2 z3) N)∧
  (cR N N 0 w1 w2 w3 z1 z2 z3 cs).1=(bp (qt cs) (rv w1 w2 w3) (rv z1 z2 z3) N).length∧(bp (qt cs) (rv w1 w2 w3) (rv z1 z2 z3) N).length≤1000:=by
 have M:uI N N 0 w1 w2 w3 z1 z2 z3 cs:= ⟨rfl,rfl,h,J⟩
 obtain ⟨I,O⟩:=(MB _ _ _ _ _ _ _ _ _ _ M).2
 have aE:=xQ (qt cs) (rv w1 w2 w3) (rv z1 z2 z3) N
 have a1:=h.lim
 have e1:(bp (qt cs) (rv w1 w2 w3) (rv z1 z2 z3) N).length=(bz (qt cs) (rv w1 w2 w3) (rv z1 z2 z3) N).length:=List.length_mergeSort _
 refine ⟨Ud _ _ _ _ _ _ _ _ _ _ M, ?_, ?_,by rw [I,e1],by omega⟩
 ·rw [I,O]
  refine @decide_eq_true _ (Classical.propDecidable _) ⟨sN _,Nat.pos_of_ne_zero fun U=>J (List.length_eq_zero_iff.1 U),by omega,fun j G=> ?_⟩
  rw [kU _ G,List.getD_eq_getElem?_getD,List.getElem?_eq_getElem G]
  obtain ⟨i,Z,ab,_⟩:=(qP _ _ _ _ N).1 (List.getElem_mem G)
  show bk (bz (qt cs) (rv w1 w2 w3) (rv z1 z2 z3) N)[j]≤_
  rw [ab]
  exact h.sz i Z
 ·rw [I,O]
  show aV (((List.range _).map (qt (aV _))).mergeSort qV)=_
  rw [YV]
  rfl
theorem Xu {N:Nat} {S:Nat→Rat} {lo hi:Rat} (G:(bp S lo hi N).length≤1000):cK.co (bp S lo hi N).length (aV (bp S lo hi N))=true:=
 @decide_eq_true _ (Classical.propDecidable _) ⟨sN _,G⟩
theorem Xv {N:Nat} {S:Nat→Rat} {lo hi:Rat} (I:(bp S lo hi N).length≤1000) (G:(e8 S lo hi N).length=1):lz.co (bp S lo hi N).length (aV (bp S lo hi N))=true:=
 @decide_eq_true _ (Classical.propDecidable _) ⟨sN _,I,G⟩
theorem Xw {N:Nat} {S:Nat→Rat} {lo hi:Rat} (M:(bp S lo hi N).length≤1000) (G:1 < (e8 S lo hi N).length):
  mh (cK.cn (bp S lo hi N).length (aV (bp S lo hi N))) 1 (cK.cv (bp S lo hi N).length (aV (bp S lo hi N)))=true∧
  (fC (cK.cn (bp S lo hi N).length (aV (bp S lo hi N))) 1 (cK.cv (bp S lo hi N).length (aV (bp S lo hi N)))).1=(e8 S lo hi N).length - 1∧
  (fC (cK.cn (bp S lo hi N).length (aV (bp S lo hi N))) 1 (cK.cv (bp S lo hi N).length (aV (bp S lo hi N)))).2.2=bY (e8 S lo hi N):=by
 obtain ⟨c1,c2⟩:=UK (us:=aV (bp S lo hi N)) M
 have I:u0 (cK.cn (bp S lo hi N).length (aV (bp S lo hi N))) 1 (cK.cv (bp S lo hi N).length (aV (bp S lo hi N))):= ⟨rfl,G,c1⟩
 obtain ⟨O,U⟩:=(MT _ _ _ I).2
 refine ⟨Ux _ _ _ I,O,U.trans ?_⟩
 have Z:1 < (aR (qt (aV (bp S lo hi N))) (bp S lo hi N).length).length:=G
 exact Nh _ fun i J=>c2 i (by show i < (aR (qt (aV (bp S lo hi N))) (bp S lo hi N).length).length;have:i≤(aR (qt (aV (bp S lo hi N))) (bp S lo hi N).length).length - 1:=J;omega)
end
end Go.Proofs.YtamcpiicmfielaaGreat.L
namespace Go.Proofs.YtamcpiicmfielaaGreat.L
open Go Go.V Go.RowKit Go.Proofs.YtamcpiicmfielaaGreat.Sp
open Go.Proofs (Tryz.prog)
noncomputable section
theorem GF {n:Nat} {ts ps:List Value} (a7:ts.length=n*3) (a6:bQ n ts n ps=true) (aE:bb n ts n ps=0):ts=aV ((List.range n).map (qt ts)):=by
 have bx:=(qU a6).1
 have a1:=(fo aE).2.2.2
 rw [← qz]
 apply List.ext_getElem
 ·rw [ll,a7]
 ·intro i Z ab
  have I:i / 3 < n:=by omega
  obtain ⟨J,M,O⟩:=BK (cg (bx _ I)).1 (qA (a1 _ I)).1
  have e1:ts[i]=ts.getD (i / 3*3+i % 3) undef:=by rw [Nat.div_add_mod',List.getD_eq_getElem?_getD,List.getElem?_eq_getElem Z];rfl
  have U:(bZ n (qt ts))[i]=(bZ n (qt ts)).getD (i / 3*3+i % 3) undef:=by rw [Nat.div_add_mod',List.getD_eq_getElem?_getD,List.getElem?_eq_getElem ab];rfl
  rw [e1,U,nB n (qt ts) I (Nat.mod_lt i (by decide))]
  have G:i % 3=0∨i % 3=1∨i % 3=2:=by omega
  rcases G with G | G | G <;> rw [G]
  ·exact J
  ·exact M
  ·exact O
def oI (n:Nat) (ts:List Value) (m:Nat) (us:List Value):List Rat:=(List.range n).map (qt ts) ++ (List.range m).map (qt us)
theorem BL (n:Nat) (ts:List Value) (m:Nat) (us:List Value):(oI n ts m us).length=n+m:=by
 unfold oI
 rw [List.length_append,List.length_map,List.length_map,List.length_range,List.length_range]
theorem Jk {n:Nat} {ts ps:List Value} {m:Nat} {us qs:List Value} (l1:ts.length=n*3) (J:bQ n ts n ps=true) (G:bb n ts n ps=0) (l3:us.length=m*3) (M:bQ m us m qs=true) (I:bb m us m qs=0):ts ++ us=aV (oI n ts m us):=by
 unfold oI
 rw [BM,← GF l1 J G,← GF l3 M I]
theorem SB {n:Nat} {ts ps:List Value} {m:Nat} {us qs:List Value} (l1:ts.length=n*3) (J:bQ n ts n ps=true) (G:bb n ts n ps=0) (l3:us.length=m*3) (M:bQ m us m qs=true) (I:bb m us m qs=0):ts ++ us=bZ (n+m) (qt (ts ++ us)):=by
 have h:=sN (oI n ts m us)
 rw [← Jk l1 J G l3 M I,BL] at h
 exact h
theorem DT {n:Nat} {ts ps:List Value} {m:Nat} {us qs:List Value} (l1:ts.length=n*3) (M:bQ n ts n ps=true) (I:bb n ts n ps=0) (l3:us.length=m*3) (O:bQ m us m qs=true) (J:bb m us m qs=0):
  (∀ j,j < n→qt (ts ++ us) j=qt ts j)∧∀ j,j < m→qt (ts ++ us) (n+j)=qt us j:=by
 rw [Jk l1 M I l3 O J]
 constructor
 ·intro j G
  rw [kU _ (by rw [BL];omega)]
  unfold oI
  rw [List.getD_eq_getElem?_getD,List.getElem?_append_left (by rw [List.length_map,List.length_range];exact G),List.getElem?_map,List.getElem?_range G];rfl
 ·intro j G
  rw [kU _ (by rw [BL];omega)]
  unfold oI
  rw [List.getD_eq_getElem?_getD,List.getElem?_append_right (by rw [List.length_map,List.length_range];omega),List.length_map,List.length_range,Nat.add_sub_cancel_left,List.getElem?_map,List.getElem?_range G];rfl
def bq (ts us:List Value):Rat:=if qt ts 0 < qt us 0 then qt us 0 else qt ts 0
def aX (n:Nat) (ts:List Value) (m:Nat) (us:List Value):Rat:=if qt us (m - 1) < qt ts (n - 1) then qt us (m - 1) else qt ts (n - 1)
def bW (n:Nat) (ts:List Value) (m:Nat) (us:List Value):List Rat:=e8 (qt (ts ++ us)) (bq ts us) (aX n ts m us) (n+m)
def GK (C:List Rat):AV:= .tup [.lst false 52 (C.length - 1) (af 6 (bY C)), .val (.int .i64 0)]
theorem Lf (C:List Rat):(bY C).length=(C.length - 1)*6:=vv _ _
theorem x8 {N:Nat} {cs:List Value} {w1 w2 w3 z1 z2 z3:Value} {lo hi:Rat} (h:ib N cs w1 w2 w3 z1 z2 z3) (e1:rv w1 w2 w3=lo) (U:rv z1 z2 z3=hi) (ab:bz (qt cs) lo hi N≠ []) (Z:1 < (e8 (qt cs) lo hi N).length):letI q:=cR N N 0 w1 w2 w3 z1 z2 z3 cs;letI s:=cK.sv q.1 q.2.2;letI r:=fC (cK.cn q.1 s) 1 (cK.cv q.1 s);
  (bif jl N N 0 w1 w2 w3 z1 z2 z3 cs then (bif cK.so q.1 q.2.2 then (bif cK.co q.1 s then (bif mh (cK.cn q.1 s) 1 (cK.cv q.1 s) then (bif decide (r.1*6≤(an.vals r.2.2).len) then some (AV.tup [.lst false 52 r.1 (dL (.vals r.2.2) [] 0 6), .val (.int .i64 0)]) else none) else none) else none) else none) else none)=some (GK (e8 (qt cs) lo hi N)):=by
 subst e1 U
 obtain ⟨c1,c2,I,J,G⟩:=K9 h ab
 obtain ⟨d1,M,O⟩:=Xw G Z
 rw [c1,c2,I,J,Xu G,d1,M,O,UI,dT (show ((e8 (qt cs) (rv w1 w2 w3) (rv z1 z2 z3) N).length - 1)*6≤(an.vals (bY (e8 (qt cs) (rv w1 w2 w3) (rv z1 z2 z3) N))).len from by show _≤(bY _).length;rw [Lf];omega)]
 rfl
theorem x7 {N:Nat} {cs:List Value} {w1 w2 w3 z1 z2 z3:Value} {lo hi:Rat} (h:ib N cs w1 w2 w3 z1 z2 z3) (e1:rv w1 w2 w3=lo) (M:rv z1 z2 z3=hi) (U:bz (qt cs) lo hi N≠ []) (O:(e8 (qt cs) lo hi N).length=1):letI q:=cR N N 0 w1 w2 w3 z1 z2 z3 cs;letI s:=lz.sv q.1 q.2.2;
  (bif jl N N 0 w1 w2 w3 z1 z2 z3 cs then (bif lz.so q.1 q.2.2 then (bif lz.co q.1 s then some (AV.tup [.val (.slice none 0 0), .val (.int .i64 0)]) else none) else none) else none)=some (AV.tup [.val (.slice none 0 0), .val (.int .i64 0)]):=by
 subst e1 M
 obtain ⟨c1,c2,G,I,J⟩:=K9 h U
 have c2:lz.so (cR N N 0 w1 w2 w3 z1 z2 z3 cs).1 (cR N N 0 w1 w2 w3 z1 z2 z3 cs).2.2=true:=c2
 have G:lz.sv (cR N N 0 w1 w2 w3 z1 z2 z3 cs).1 (cR N N 0 w1 w2 w3 z1 z2 z3 cs).2.2=_:=G
 rw [c1,c2,G,I,Xv J O]
 rfl
theorem x6 {N:Nat} {cs:List Value} {w1 w2 w3 z1 z2 z3:Value} {lo hi:Rat} (h:ib N cs w1 w2 w3 z1 z2 z3) (e1:rv w1 w2 w3=lo) (G:rv z1 z2 z3=hi) (I:bz (qt cs) lo hi N= []):
  (bif qD N N 0 w1 w2 w3 z1 z2 z3 cs then some (AV.tup [.val (.slice none 0 0), .val (.int .i64 0)]) else none)=some (AV.tup [.val (.slice none 0 0), .val (.int .i64 0)]):=by
 subst e1 G
 rw [Ue _ _ _ _ _ _ _ _ _ _ ⟨rfl,rfl,h,I⟩]
 rfl
theorem dB {vs:List Value} {j:Nat} (h:fe vs j=true): qR3 vs j=true:=Dc h
end
end Go.Proofs.YtamcpiicmfielaaGreat.L
namespace Go.Proofs.YtamcpiicmfielaaGreat.L
open Go Go.V Go.RowKit Go.Proofs.YtamcpiicmfielaaGreat.Sp
open Go.Proofs (Tryz.prog)
noncomputable section
theorem z7:bf Tryz.prog (lZ bn ad):=((aK _).add lp.cG).add JQ
theorem CX {n:Nat} {ts ps:List Value} {m:Nat} {us qs:List Value} (l1:ts.length=n*3) (G:bQ n ts n ps=true) (J:bb n ts n ps=0) (l3:us.length=m*3) (I:bQ m us m qs=true) (M:bb m us m qs=0) (a7:n≤10) (a6:m≤10) {w1 w2 w3 z1 z2 z3:Value} (U:aL w1 w2 w3=true) (Z:cH (ag w2) (ag w3)=true) (ab:aL z1 z2 z3=true) (aE:cH (ag z2) (ag z3)=true):ib (n+m) (ts ++ us) w1 w2 w3 z1 z2 z3:=by
 obtain ⟨q1,q2⟩:=DT l1 G J l3 I M
 refine ⟨by omega,SB l1 G J l3 I M,fun j a1=> ?_,U,Z,ab,aE⟩
 by_cases O:j < n
 ·rw [q1 j O]
  exact rj ((qU G).1 j O)
 ·have:=q2 (j - n) (by omega)
  rw [show n+(j - n)=j by omega] at this
  rw [this]
  exact rj ((qU I).1 _ (by omega))
theorem XH (p r:Nat) (ts ps us qs:List Value) (l1:ts.length=(p+1)*3) (l2:ps.length=(p+1)*6) (l3:us.length=(r+1)*3) (l4:qs.length=(r+1)*6)
  (bD:bQ (p+1) ts (p+1) ps=true) (ca:bb (p+1) ts (p+1) ps=0) (b0:bQ (r+1) us (r+1) qs=true) (cb:bb (r+1) us (r+1) qs=0) (c0:p+1≤10) (c3:r+1≤10) (aE:bz (qt (ts ++ us)) (bq ts us) (aX (p+1) ts (r+1) us) (p+1+(r+1))≠ []) (ab:1 < (bW (p+1) ts (r+1) us).length):
  aG Tryz.prog ⟨lZ bn ad,qp,ox jl cR (sC mh fC (nr cK aq))⟩ 10 10 24 [bO (p+1) ts (p+1) ps,bO (r+1) us (r+1) qs]=some (GK (bW (p+1) ts (r+1) us)):=by
 have a7:=iL bD ca
 have bx:=iL b0 cb
 have L:=fun {w1 w2 w3 z1 z2 z3:Value} J G ch ct=>CX (w1:=w1) (w2:=w2) (w3:=w3) (z1:=z1) (z2:=z2) (z3:=z3) l1 bD ca l3 b0 cb c0 c3 J G ch ct
 have e1:((p+1:Nat):Int) - 1=(p:Int):=by omega
 have b3:((r+1:Nat):Int) - 1=(r:Int):=by omega
 have b4:(((p+1:Nat):Int) - 1).toNat=p:=by omega
 have b5:(((r+1:Nat):Int) - 1).toNat=r:=by omega
 obtain ⟨M,U⟩:=cg (a7.ts.ok 0 (by omega))
 obtain ⟨Z,a1⟩:=cg (a7.ts.ok p (by omega))
 obtain ⟨c1,c2⟩:=cg (bx.ts.ok 0 (by omega))
 obtain ⟨d1,a6⟩:=cg (bx.ts.ok r (by omega))
 simp only [Nat.zero_mul,Nat.zero_add] at M U c1 c2
 have T:=XC bn ad cK jl cR mh fC (p+1) ts (p+1) ps (r+1) us (r+1) qs
 rw [dB (vs:=ts) (j:=Int.toNat 0) M,dB (vs:=us) (j:=Int.toNat 0) c1,dB (vs:=ts) (j:=(((p+1:Nat):Int) - 1).toNat) (by rw [b4];exact Z),dB (vs:=us) (j:=(((r+1:Nat):Int) - 1).toNat) (by rw [b5];exact d1)] at T
 have k1:((p+1:Nat):Int)+((r+1:Nat):Int)=((p+1+(r+1):Nat):Int):=by omega
 have c4:List.take ((p+1)*3) ts=ts:=List.take_of_length_le (by omega)
 simp only [e1,b3,Int.toNat_natCast,Nat.zero_add,Int.zero_add,Int.sub_zero,bj l1,bj l2,bj l3,bj l4,c9,k1,c4] at T
 rw [show bn.ko (p+1) ts (p+1) ps=true from bD,show bn.ko (r+1) us (r+1) qs=true from b0,dT (show bn.ck (p+1) ts (p+1) ps=0 from ca),dT (show bn.ck (r+1) us (r+1) qs=0 from cb),
  dT (show (0:Int) < ((p+1:Nat):Int) by omega),dT (show (0:Int) < ((r+1:Nat):Int) by omega),aJ (z:=(p:Int)) (by omega),aJ (z:=(r:Int)) (by omega),dT (show (0:Int)≤(p:Int) by omega),dT (show (p:Int) < ((p+1:Nat):Int) by omega),dT (show (0:Int)≤(r:Int) by omega),dT (show (r:Int) < ((r+1:Nat):Int) by omega),
  M,cy U,Z,cy a1,c1,cy c2,d1,cy a6,aJ (z:=((p+1:Nat):Int)) (by omega),aJ (z:=((p+1+(r+1):Nat):Int)) (by omega),dT (show (0:Int) < ((p+1+(r+1):Nat):Int) by omega),pE (m:=p+1+(r+1)) (by omega),pE (m:=p+1) (by omega),qu l1 a7.ts.ok,qu l3 bx.ts.ok,dT (show (p+1)*3≤(an.vals ts).len from by show _≤ts.length;omega)] at T
 have b6:ad.qv (ar (us.getD 0 undef)) (ag (us.getD 1 undef)) (ag (us.getD 2 undef))=qt us 0:=rfl
 have b7:ad.qv (ar (ts.getD 0 undef)) (ag (ts.getD 1 undef)) (ag (ts.getD 2 undef))=qt ts 0:=rfl
 have g1:rv (us.getD 0 undef) (us.getD 1 undef) (us.getD 2 undef)=qt us 0:=rfl
 have g2:rv (ts.getD 0 undef) (ts.getD 1 undef) (ts.getD 2 undef)=qt ts 0:=rfl
 have b1:rv (us.getD (r*3+0) undef) (us.getD (r*3+1) undef) (us.getD (r*3+2) undef)=qt us r:=rfl
 have b2:rv (ts.getD (p*3+0) undef) (ts.getD (p*3+1) undef) (ts.getD (p*3+2) undef)=qt ts p:=rfl
 rw [b6,b7,mU us r,mU ts p] at T
 by_cases J:qt ts 0 < qt us 0
 ·have O:bq ts us=qt us 0:=if_pos J
  rw [dT (nD.2 J)] at T
  by_cases G:qt us r < qt ts p
  ·have I:aX (p+1) ts (r+1) us=qt us r:=if_pos G
   rw [dT (bo.2 G)] at T
   exact T.trans (x8 (L c1 c2 d1 a6) (g1.trans O.symm) (b1.trans I.symm) aE ab)
  ·have I:aX (p+1) ts (r+1) us=qt ts p:=if_neg G
   rw [dF (fun h=>G (bo.1 h))] at T
   exact T.trans (x8 (L c1 c2 Z a1) (g1.trans O.symm) (b2.trans I.symm) aE ab)
 ·have O:bq ts us=qt ts 0:=if_neg J
  rw [dF (fun h=>J (nD.1 h))] at T
  by_cases G:qt us r < qt ts p
  ·have I:aX (p+1) ts (r+1) us=qt us r:=if_pos G
   rw [dT (bo.2 G)] at T
   exact T.trans (x8 (L M U d1 a6) (g2.trans O.symm) (b1.trans I.symm) aE ab)
  ·have I:aX (p+1) ts (r+1) us=qt ts p:=if_neg G
   rw [dF (fun h=>G (bo.1 h))] at T
   exact T.trans (x8 (L M U Z a1) (g2.trans O.symm) (b2.trans I.symm) aE ab)
theorem XG (p r:Nat) (ts ps us qs:List Value) (l1:ts.length=(p+1)*3) (l2:ps.length=(p+1)*6) (l3:us.length=(r+1)*3) (l4:qs.length=(r+1)*6)
  (bD:bQ (p+1) ts (p+1) ps=true) (ca:bb (p+1) ts (p+1) ps=0) (b0:bQ (r+1) us (r+1) qs=true) (cb:bb (r+1) us (r+1) qs=0) (c0:p+1≤10) (c3:r+1≤10) (aE:bz (qt (ts ++ us)) (bq ts us) (aX (p+1) ts (r+1) us) (p+1+(r+1))≠ []) (ab:(bW (p+1) ts (r+1) us).length=1):
  aG Tryz.prog ⟨lZ bn ad,qp,ox jl cR (nr lz aq)⟩ 10 10 24 [bO (p+1) ts (p+1) ps,bO (r+1) us (r+1) qs]=some (AV.tup [.val (.slice none 0 0), .val (.int .i64 0)]):=by
 have a7:=iL bD ca
 have bx:=iL b0 cb
 have L:=fun {w1 w2 w3 z1 z2 z3:Value} J G ch ct=>CX (w1:=w1) (w2:=w2) (w3:=w3) (z1:=z1) (z2:=z2) (z3:=z3) l1 bD ca l3 b0 cb c0 c3 J G ch ct
 have e1:((p+1:Nat):Int) - 1=(p:Int):=by omega
 have b3:((r+1:Nat):Int) - 1=(r:Int):=by omega
 have b4:(((p+1:Nat):Int) - 1).toNat=p:=by omega
 have b5:(((r+1:Nat):Int) - 1).toNat=r:=by omega
 obtain ⟨M,U⟩:=cg (a7.ts.ok 0 (by omega))
 obtain ⟨Z,a1⟩:=cg (a7.ts.ok p (by omega))
 obtain ⟨c1,c2⟩:=cg (bx.ts.ok 0 (by omega))
 obtain ⟨d1,a6⟩:=cg (bx.ts.ok r (by omega))
 simp only [Nat.zero_mul,Nat.zero_add] at M U c1 c2
 have T:=XB bn ad lz jl cR (p+1) ts (p+1) ps (r+1) us (r+1) qs
 rw [dB (vs:=ts) (j:=Int.toNat 0) M,dB (vs:=us) (j:=Int.toNat 0) c1,dB (vs:=ts) (j:=(((p+1:Nat):Int) - 1).toNat) (by rw [b4];exact Z),dB (vs:=us) (j:=(((r+1:Nat):Int) - 1).toNat) (by rw [b5];exact d1)] at T
 have k1:((p+1:Nat):Int)+((r+1:Nat):Int)=((p+1+(r+1):Nat):Int):=by omega
 have c4:List.take ((p+1)*3) ts=ts:=List.take_of_length_le (by omega)
 simp only [e1,b3,Int.toNat_natCast,Nat.zero_add,Int.zero_add,Int.sub_zero,bj l1,bj l2,bj l3,bj l4,c9,k1,c4] at T
 rw [show bn.ko (p+1) ts (p+1) ps=true from bD,show bn.ko (r+1) us (r+1) qs=true from b0,dT (show bn.ck (p+1) ts (p+1) ps=0 from ca),dT (show bn.ck (r+1) us (r+1) qs=0 from cb),
  dT (show (0:Int) < ((p+1:Nat):Int) by omega),dT (show (0:Int) < ((r+1:Nat):Int) by omega),aJ (z:=(p:Int)) (by omega),aJ (z:=(r:Int)) (by omega),dT (show (0:Int)≤(p:Int) by omega),dT (show (p:Int) < ((p+1:Nat):Int) by omega),dT (show (0:Int)≤(r:Int) by omega),dT (show (r:Int) < ((r+1:Nat):Int) by omega),
  M,cy U,Z,cy a1,c1,cy c2,d1,cy a6,aJ (z:=((p+1:Nat):Int)) (by omega),aJ (z:=((p+1+(r+1):Nat):Int)) (by omega),dT (show (0:Int) < ((p+1+(r+1):Nat):Int) by omega),pE (m:=p+1+(r+1)) (by omega),pE (m:=p+1) (by omega),qu l1 a7.ts.ok,qu l3 bx.ts.ok,dT (show (p+1)*3≤(an.vals ts).len from by show _≤ts.length;omega)] at T
 have b6:ad.qv (ar (us.getD 0 undef)) (ag (us.getD 1 undef)) (ag (us.getD 2 undef))=qt us 0:=rfl
 have b7:ad.qv (ar (ts.getD 0 undef)) (ag (ts.getD 1 undef)) (ag (ts.getD 2 undef))=qt ts 0:=rfl
 have g1:rv (us.getD 0 undef) (us.getD 1 undef) (us.getD 2 undef)=qt us 0:=rfl
 have g2:rv (ts.getD 0 undef) (ts.getD 1 undef) (ts.getD 2 undef)=qt ts 0:=rfl
 have b1:rv (us.getD (r*3+0) undef) (us.getD (r*3+1) undef) (us.getD (r*3+2) undef)=qt us r:=rfl
 have b2:rv (ts.getD (p*3+0) undef) (ts.getD (p*3+1) undef) (ts.getD (p*3+2) undef)=qt ts p:=rfl
 rw [b6,b7,mU us r,mU ts p] at T
 by_cases J:qt ts 0 < qt us 0
 ·have O:bq ts us=qt us 0:=if_pos J
  rw [dT (nD.2 J)] at T
  by_cases G:qt us r < qt ts p
  ·have I:aX (p+1) ts (r+1) us=qt us r:=if_pos G
   rw [dT (bo.2 G)] at T
   exact T.trans (x7 (L c1 c2 d1 a6) (g1.trans O.symm) (b1.trans I.symm) aE ab)
  ·have I:aX (p+1) ts (r+1) us=qt ts p:=if_neg G
   rw [dF (fun h=>G (bo.1 h))] at T
   exact T.trans (x7 (L c1 c2 Z a1) (g1.trans O.symm) (b2.trans I.symm) aE ab)
 ·have O:bq ts us=qt ts 0:=if_neg J
  rw [dF (fun h=>J (nD.1 h))] at T
  by_cases G:qt us r < qt ts p
  ·have I:aX (p+1) ts (r+1) us=qt us r:=if_pos G
   rw [dT (bo.2 G)] at T
   exact T.trans (x7 (L M U d1 a6) (g2.trans O.symm) (b1.trans I.symm) aE ab)
  ·have I:aX (p+1) ts (r+1) us=qt ts p:=if_neg G
   rw [dF (fun h=>G (bo.1 h))] at T
   exact T.trans (x7 (L M U Z a1) (g2.trans O.symm) (b2.trans I.symm) aE ab)
theorem XF (p r:Nat) (ts ps us qs:List Value) (l1:ts.length=(p+1)*3) (l2:ps.length=(p+1)*6) (l3:us.length=(r+1)*3) (l4:qs.length=(r+1)*6)
  (bx:bQ (p+1) ts (p+1) ps=true) (ca:bb (p+1) ts (p+1) ps=0) (bD:bQ (r+1) us (r+1) qs=true) (cb:bb (r+1) us (r+1) qs=0) (ct:p+1≤10) (c0:r+1≤10) (ab:bz (qt (ts ++ us)) (bq ts us) (aX (p+1) ts (r+1) us) (p+1+(r+1))= []):
  aG Tryz.prog ⟨lZ bn ad,az,Bl qD pB aq⟩ 10 10 24 [bO (p+1) ts (p+1) ps,bO (r+1) us (r+1) qs]=some (AV.tup [.val (.slice none 0 0), .val (.int .i64 0)]):=by
 have a6:=iL bx ca
 have a7:=iL bD cb
 have L:=fun {w1 w2 w3 z1 z2 z3:Value} J G b7 ch=>CX (w1:=w1) (w2:=w2) (w3:=w3) (z1:=z1) (z2:=z2) (z3:=z3) l1 bx ca l3 bD cb ct c0 J G b7 ch
 have e1:((p+1:Nat):Int) - 1=(p:Int):=by omega
 have b2:((r+1:Nat):Int) - 1=(r:Int):=by omega
 have b3:(((p+1:Nat):Int) - 1).toNat=p:=by omega
 have b4:(((r+1:Nat):Int) - 1).toNat=r:=by omega
 obtain ⟨M,U⟩:=cg (a6.ts.ok 0 (by omega))
 obtain ⟨Z,aE⟩:=cg (a6.ts.ok p (by omega))
 obtain ⟨c1,c2⟩:=cg (a7.ts.ok 0 (by omega))
 obtain ⟨d1,a1⟩:=cg (a7.ts.ok r (by omega))
 simp only [Nat.zero_mul,Nat.zero_add] at M U c1 c2
 have T:=XA bn ad qD pB (p+1) ts (p+1) ps (r+1) us (r+1) qs
 rw [dB (vs:=ts) (j:=Int.toNat 0) M,dB (vs:=us) (j:=Int.toNat 0) c1,dB (vs:=ts) (j:=(((p+1:Nat):Int) - 1).toNat) (by rw [b3];exact Z),dB (vs:=us) (j:=(((r+1:Nat):Int) - 1).toNat) (by rw [b4];exact d1)] at T
 have k1:((p+1:Nat):Int)+((r+1:Nat):Int)=((p+1+(r+1):Nat):Int):=by omega
 have c3:List.take ((p+1)*3) ts=ts:=List.take_of_length_le (by omega)
 simp only [e1,b2,Int.toNat_natCast,Nat.zero_add,Int.zero_add,Int.sub_zero,bj l1,bj l2,bj l3,bj l4,c9,k1,c3] at T
 rw [show bn.ko (p+1) ts (p+1) ps=true from bx,show bn.ko (r+1) us (r+1) qs=true from bD,dT (show bn.ck (p+1) ts (p+1) ps=0 from ca),dT (show bn.ck (r+1) us (r+1) qs=0 from cb),
  dT (show (0:Int) < ((p+1:Nat):Int) by omega),dT (show (0:Int) < ((r+1:Nat):Int) by omega),aJ (z:=(p:Int)) (by omega),aJ (z:=(r:Int)) (by omega),dT (show (0:Int)≤(p:Int) by omega),dT (show (p:Int) < ((p+1:Nat):Int) by omega),dT (show (0:Int)≤(r:Int) by omega),dT (show (r:Int) < ((r+1:Nat):Int) by omega),
  M,cy U,Z,cy aE,c1,cy c2,d1,cy a1,aJ (z:=((p+1:Nat):Int)) (by omega),aJ (z:=((p+1+(r+1):Nat):Int)) (by omega),dT (show (0:Int) < ((p+1+(r+1):Nat):Int) by omega),pE (m:=p+1+(r+1)) (by omega),pE (m:=p+1) (by omega),qu l1 a6.ts.ok,qu l3 a7.ts.ok,dT (show (p+1)*3≤(an.vals ts).len from by show _≤ts.length;omega)] at T
 have b5:ad.qv (ar (us.getD 0 undef)) (ag (us.getD 1 undef)) (ag (us.getD 2 undef))=qt us 0:=rfl
 have b6:ad.qv (ar (ts.getD 0 undef)) (ag (ts.getD 1 undef)) (ag (ts.getD 2 undef))=qt ts 0:=rfl
 have g1:rv (us.getD 0 undef) (us.getD 1 undef) (us.getD 2 undef)=qt us 0:=rfl
 have g2:rv (ts.getD 0 undef) (ts.getD 1 undef) (ts.getD 2 undef)=qt ts 0:=rfl
 have b0:rv (us.getD (r*3+0) undef) (us.getD (r*3+1) undef) (us.getD (r*3+2) undef)=qt us r:=rfl
 have b1:rv (ts.getD (p*3+0) undef) (ts.getD (p*3+1) undef) (ts.getD (p*3+2) undef)=qt ts p:=rfl
 rw [b5,b6,mU us r,mU ts p] at T
 by_cases J:qt ts 0 < qt us 0
 ·have O:bq ts us=qt us 0:=if_pos J
  rw [dT (nD.2 J)] at T
  by_cases G:qt us r < qt ts p
  ·have I:aX (p+1) ts (r+1) us=qt us r:=if_pos G
   rw [dT (bo.2 G)] at T
   exact T.trans (x6 (L c1 c2 d1 a1) (g1.trans O.symm) (b0.trans I.symm) ab)
  ·have I:aX (p+1) ts (r+1) us=qt ts p:=if_neg G
   rw [dF (fun h=>G (bo.1 h))] at T
   exact T.trans (x6 (L c1 c2 Z aE) (g1.trans O.symm) (b1.trans I.symm) ab)
 ·have O:bq ts us=qt ts 0:=if_neg J
  rw [dF (fun h=>J (nD.1 h))] at T
  by_cases G:qt us r < qt ts p
  ·have I:aX (p+1) ts (r+1) us=qt us r:=if_pos G
   rw [dT (bo.2 G)] at T
   exact T.trans (x6 (L M U d1 a1) (g2.trans O.symm) (b0.trans I.symm) ab)
  ·have I:aX (p+1) ts (r+1) us=qt ts p:=if_neg G
   rw [dF (fun h=>G (bo.1 h))] at T
   exact T.trans (x6 (L M U Z aE) (g2.trans O.symm) (b1.trans I.symm) ab)
end
end Go.Proofs.YtamcpiicmfielaaGreat.L
namespace Go.Proofs.YtamcpiicmfielaaGreat.L
open Go Go.V Go.RowKit Go.Proofs.YtamcpiicmfielaaGreat.Sp
open Go.Proofs (Tryz.prog)
noncomputable section
theorem JL {S:Nat→Rat} {m:Nat} (O:∀ i,i+1 < m→S i≤S (i+1)):∀ p:Nat,p≤m→(aR S p).Pairwise (· < ·)∧∀ x,x ∈ aR S p↔∃ i,i < p∧x=S i
 | 0,_=> ⟨List.Pairwise.nil,fun x=> ⟨fun h=>(by cases h),fun h=>(by obtain ⟨i,h,_⟩:=h;omega)⟩⟩
 | p+1,b0=>by
  obtain ⟨U,I⟩:=JL O p (by omega)
  have aE:∀ i,i < p→S i≤S (p - 1):=fun i hi=>by
   have ab:∀ d,i+d < p→S i≤S (i+d):=fun d=>by
    induction d with
    | zero=>intro _;exact Rat.le_refl
    | succ d a6=>intro bD;exact Rat.le_trans (a6 (by omega)) (O (i+d) (by omega))
   have:=ab (p - 1 - i) (by omega)
   rwa [show i+(p - 1 - i)=p - 1 by omega] at this
  unfold aR
  split
  ·rename_i J
   refine ⟨U,fun x=> ⟨fun G=> ?_,fun G=> ?_⟩⟩
   ·obtain ⟨i,hi,rfl⟩:=(I x).1 G
    exact ⟨i,by omega,rfl⟩
   ·obtain ⟨i,hi,rfl⟩:=G
    by_cases M:i=p
    ·subst M
     exact (I _).2 ⟨i - 1,by omega,J.2⟩
    ·exact (I _).2 ⟨i,by omega,rfl⟩
  ·rename_i J
   refine ⟨List.pairwise_append.2 ⟨U,List.pairwise_singleton _ _,fun x G y a1=> ?_⟩,fun x=> ⟨fun G=> ?_,fun G=> ?_⟩⟩
   ·obtain rfl:=List.mem_singleton.1 a1
    obtain ⟨i,hi,rfl⟩:=(I x).1 G
    have a7:=aE i hi
    have Z:=O (p - 1) (by omega)
    rw [show p - 1+1=p by omega] at Z
    have bx:S p≠S (p - 1):=fun h=>J ⟨by omega,h⟩
    grind
   ·rcases List.mem_append.1 G with G | G
    ·obtain ⟨i,hi,rfl⟩:=(I x).1 G
     exact ⟨i,by omega,rfl⟩
    ·exact ⟨p,by omega,List.mem_singleton.1 G⟩
   ·obtain ⟨i,hi,rfl⟩:=G
    by_cases M:i=p
    ·subst M
     exact List.mem_append_right _ (List.mem_singleton.2 rfl)
    ·exact List.mem_append_left _ ((I _).2 ⟨i,by omega,rfl⟩)
theorem XM (S:Nat→Rat) (lo hi:Rat) (N:Nat):∀ i,i+1 < (bp S lo hi N).length→(bp S lo hi N).getD i 0≤(bp S lo hi N).getD (i+1) 0:=by
 intro i J
 have h:=List.pairwise_mergeSort (le:=qV) (fun a b c I G=>by
  have I:decide (a≤b)=true:=I
  have G:decide (b≤c)=true:=G
  rw [decide_eq_true_eq] at I G
  exact decide_eq_true (Rat.le_trans I G)) (fun a b=>by
  show (decide (a≤b) ||decide (b≤a))=true
  rw [Bool.or_eq_true,decide_eq_true_eq,decide_eq_true_eq]
  exact Rat.le_total) (bz S lo hi N)
 have G:=List.pairwise_iff_getElem.1 h i (i+1) (by exact Nat.lt_of_succ_lt J) J (by omega)
 have G:decide _=true:=G
 rw [decide_eq_true_eq] at G
 rw [List.getD_eq_getElem?_getD,List.getD_eq_getElem?_getD,List.getElem?_eq_getElem J,List.getElem?_eq_getElem (Nat.lt_of_succ_lt J)]
 exact G
theorem Le (S:Nat→Rat) (lo hi:Rat) (N:Nat):(e8 S lo hi N).Pairwise (· < ·)∧∀ x,x ∈ e8 S lo hi N↔∃ i,i < N∧x=S i∧lo≤x∧x≤hi:=by
 obtain ⟨I,J⟩:=JL (S:=qt (aV (bp S lo hi N))) (m:=(bp S lo hi N).length) (fun i G=>by
  rw [kU _ (Nat.lt_of_succ_lt G),kU _ G]
  exact XM S lo hi N i G) _ (Nat.le_refl _)
 refine ⟨I,fun x=> ?_⟩
 have e:(∃ i,i < (bp S lo hi N).length∧x=qt (aV (bp S lo hi N)) i)↔x ∈ bp S lo hi N:=by
  constructor
  ·rintro ⟨i,G,rfl⟩
   rw [kU _ G,List.getD_eq_getElem?_getD,List.getElem?_eq_getElem G]
   exact List.getElem_mem G
  ·intro M
   obtain ⟨i,G,rfl⟩:=List.getElem_of_mem M
   refine ⟨i,G, ?_⟩
   rw [kU _ G,List.getD_eq_getElem?_getD,List.getElem?_eq_getElem G];rfl
 rw [show (x ∈ e8 S lo hi N)=(x ∈ aR (qt (aV (bp S lo hi N))) (bp S lo hi N).length) from rfl,J,e]
 unfold bp
 rw [List.mem_mergeSort]
 exact qP S lo hi x N
theorem Kp {S:Nat→Rat} {lo hi:Rat} {N i:Nat} (J:i < N) (G:lo≤S i) (I:S i≤hi):bz S lo hi N≠ []:=fun h=>by
 have:=(qP S lo hi (S i) N).2 ⟨i,J,rfl,G,I⟩
 rw [h] at this
 cases this
theorem Wn {S:Nat→Rat} {lo hi:Rat} {N:Nat} (h:hi < lo):bz S lo hi N= []:=by
 cases G:bz S lo hi N with
 | nil=>rfl
 | cons x l=>
  obtain ⟨_,_,_,I,J⟩:=(qP S lo hi x N).1 (by rw [G];exact List.mem_cons_self)
  grind
structure QP (n:Nat) (ts:List Value) (m:Nat) (us:List Value) (C:List Rat):Prop where
 two:1 < C.length
 up:∀ i j,i < j→j < C.length→C.getD i 0 < C.getD j 0
 fst:C.getD 0 0=bq ts us
 lst:C.getD (C.length - 1) 0=aX n ts m us
 LQ:∀ i,i < C.length→bq ts us≤C.getD i 0∧C.getD i 0≤aX n ts m us
 QU:∀ i,i < n→bq ts us≤qt ts i→qt ts i≤aX n ts m us→∃ k,k < C.length∧C.getD k 0=qt ts i
 QV:∀ i,i < m→bq ts us≤qt us i→qt us i≤aX n ts m us→∃ k,k < C.length∧C.getD k 0=qt us i
 mem:∀ i,i < C.length→(∃ j,j < n∧C.getD i 0=qt ts j)∨∃ j,j < m∧C.getD i 0=qt us j
section
variable {n : Nat} {ts ps : List Value} {m : Nat} {us qs : List Value}
theorem CY (l1:ts.length=n*3) (O:bQ n ts n ps=true) (J:bb n ts n ps=0) (l3:us.length=m*3) (U:bQ m us m qs=true) (M:bb m us m qs=0) (h:bq ts us≤aX n ts m us):bz (qt (ts ++ us)) (bq ts us) (aX n ts m us) (n+m)≠ []:=by
 obtain ⟨q1,q2⟩:=DT l1 O J l3 U M
 have p1:=(fo J).2.1
 have p2:=(fo M).2.1
 by_cases I:qt ts 0 < qt us 0
 ·have e:bq ts us=qt us 0:=if_pos I
  have G:=q2 0 p2
  exact Kp (i:=n+0) (by omega) (by rw [G,e];exact Rat.le_refl) (by rw [G,← e];exact h)
 ·have e:bq ts us=qt ts 0:=if_neg I
  have G:=q1 0 p1
  exact Kp (i:=0) (by omega) (by rw [G,e];exact Rat.le_refl) (by rw [G,← e];exact h)
theorem Lg (l1:ts.length=n*3) (O:bQ n ts n ps=true) (a1:bb n ts n ps=0) (l3:us.length=m*3) (b6:bQ m us m qs=true) (a6:bb m us m qs=0) (h:bq ts us < aX n ts m us):QP n ts m us (bW n ts m us):=by
 obtain ⟨q1,q2⟩:=DT l1 O a1 l3 b6 a6
 have p1:=(fo a1).2.1
 have p2:=(fo a6).2.1
 obtain ⟨ch,U⟩:=Le (qt (ts ++ us)) (bq ts us) (aX n ts m us) (n+m)
 have Z:∀ i,i < n→bq ts us≤qt ts i→qt ts i≤aX n ts m us→qt ts i ∈ bW n ts m us:=fun i hi a b=>(U _).2 ⟨i,by omega,(q1 i hi).symm,a,b⟩
 have ab:∀ i,i < m→bq ts us≤qt us i→qt us i≤aX n ts m us→qt us i ∈ bW n ts m us:=fun i hi a b=>(U _).2 ⟨n+i,by omega,(q2 i hi).symm,a,b⟩
 have b7:bq ts us ∈ bW n ts m us:=by
  by_cases G:qt ts 0 < qt us 0
  ·have e:bq ts us=qt us 0:=if_pos G
   have:=ab 0 p2 (by rw [e];exact Rat.le_refl) (by rw [← e];exact Rat.le_of_lt h)
   rwa [← e] at this
  ·have e:bq ts us=qt ts 0:=if_neg G
   have:=Z 0 p1 (by rw [e];exact Rat.le_refl) (by rw [← e];exact Rat.le_of_lt h)
   rwa [← e] at this
 have b4:aX n ts m us ∈ bW n ts m us:=by
  by_cases G:qt us (m - 1) < qt ts (n - 1)
  ·have e:aX n ts m us=qt us (m - 1):=if_pos G
   have:=ab (m - 1) (by omega) (by rw [← e];exact Rat.le_of_lt h) (by rw [e];exact Rat.le_refl)
   rwa [← e] at this
  ·have e:aX n ts m us=qt ts (n - 1):=if_neg G
   have:=Z (n - 1) (by omega) (by rw [← e];exact Rat.le_of_lt h) (by rw [e];exact Rat.le_refl)
   rwa [← e] at this
 have J:∀ x,x ∈ bW n ts m us→∃ k,k < (bW n ts m us).length∧(bW n ts m us).getD k 0=x:=fun x ct=>by
  obtain ⟨k,O,rfl⟩:=List.getElem_of_mem ct
  exact ⟨k,O,by rw [List.getD_eq_getElem?_getD,List.getElem?_eq_getElem O];rfl⟩
 have bx:∀ i,i < (bW n ts m us).length→(bW n ts m us).getD i 0 ∈ bW n ts m us:=fun i hi=>by
  rw [List.getD_eq_getElem?_getD,List.getElem?_eq_getElem hi]
  exact List.getElem_mem hi
 have b3:∀ i j,i < j→j < (bW n ts m us).length→(bW n ts m us).getD i 0 < (bW n ts m us).getD j 0:=fun i j a7 I=>by
  have:=List.pairwise_iff_getElem.1 ch i j (by show i < (bW n ts m us).length;omega) I a7
  rw [List.getD_eq_getElem?_getD,List.getElem?_eq_getElem (show i < (bW n ts m us).length by omega),List.getD_eq_getElem?_getD,List.getElem?_eq_getElem I]
  exact this
 have aE:∀ i,i < (bW n ts m us).length→bq ts us≤(bW n ts m us).getD i 0∧(bW n ts m us).getD i 0≤aX n ts m us:=fun i hi=>by
  obtain ⟨_,_,_,a,b⟩:=(U _).1 (bx i hi)
  exact ⟨a,b⟩
 obtain ⟨k0,b5,b0⟩:=J _ b7
 obtain ⟨k1,c3,b1⟩:=J _ b4
 have b2:∀ i j,i≤j→j < (bW n ts m us).length→(bW n ts m us).getD i 0≤(bW n ts m us).getD j 0:=fun i j a7 I=>by
  by_cases M:i=j
  ·subst M;exact Rat.le_refl
  ·exact Rat.le_of_lt (b3 i j (by omega) I)
 refine ⟨?_,b3, ?_, ?_,aE,fun i hi a b=>J _ (Z i hi a b),fun i hi a b=>J _ (ab i hi a b),fun i hi=> ?_⟩
 ·refine Classical.byContradiction fun c0=> ?_
  have:k0=k1:=by omega
  subst this
  rw [b0] at b1
  grind
 ·have a:=(aE 0 (by omega)).1
  have b:=b2 0 k0 (by omega) b5
  rw [b0] at b
  exact Rat.le_antisymm b a
 ·have a:=(aE ((bW n ts m us).length - 1) (by omega)).2
  have b:=b2 k1 ((bW n ts m us).length - 1) (by omega) (by omega)
  rw [b1] at b
  exact Rat.le_antisymm a b
 ·obtain ⟨j,I,M,_⟩:=(U _).1 (bx i hi)
  by_cases bD:j < n
  ·exact .inl ⟨j,bD,M.trans (q1 j bD)⟩
  ·have:=q2 (j - n) (by omega)
   rw [show n+(j - n)=j by omega] at this
   exact .inr ⟨j - n,by omega,M.trans this⟩
end
theorem M3 {n:Nat} {ts:List Value} (h:fm n ts) (b1:0 < n) {x y p:Rat} (b3:x < y) (a7:qt ts 0≤x) (bx:y≤qt ts (n - 1)) (aE:∀ i,i < n→¬ (x < qt ts i∧qt ts i < y)) (a6:0≤p) (p1:p≤1) (c:Nat→Rat):bG n ts c (x+p*(y - x))=kG (bG n ts c x) (bG n ts c y) p:=by
 obtain ⟨j, ⟨I,a1⟩,ab⟩:=least (p:=fun i=>i < n∧x < qt ts i) (n - 1) ⟨by omega,by grind⟩
 have bD:j≠0:=fun G=>by subst G;grind
 obtain ⟨k,rfl⟩:∃ k,j=k+1:= ⟨j - 1,by omega⟩
 have b0:¬ x < qt ts k:=fun G=>ab k (by omega) ⟨by omega,G⟩
 have b4:¬ qt ts (k+1) < y:=fun G=>aE (k+1) I ⟨a1,G⟩
 have b2:=h.up k I
 have M:0 < qt ts (k+1) - qt ts k:=by grind
 have U:qt ts (k+1) - qt ts k≠0:=by grind
 have J:∀ z,qt ts k≤z→z≤qt ts (k+1)→bG n ts c z=kG (c k) (c (k+1)) ((z - qt ts k) / (qt ts (k+1) - qt ts k)):=fun z a b=>by
  have e:(z - qt ts k) / (qt ts (k+1) - qt ts k)*(qt ts (k+1) - qt ts k)=z - qt ts k:=Rat.div_mul_cancel U
  have c1:0≤(z - qt ts k) / (qt ts (k+1) - qt ts k):=by
   refine Classical.byContradiction fun Z=> ?_
   have:=Rat.mul_lt_mul_of_pos_right (show (z - qt ts k) / (qt ts (k+1) - qt ts k) < 0 by grind) M
   rw [e] at this
   grind
  have c2:(z - qt ts k) / (qt ts (k+1) - qt ts k)≤1:=by
   refine Classical.byContradiction fun Z=> ?_
   have:=Rat.mul_lt_mul_of_pos_right (show 1 < (z - qt ts k) / (qt ts (k+1) - qt ts k) by grind) M
   rw [e] at this
   grind
  have:=Z0 h I c1 c2 c
  rw [e] at this
  rw [← this]
  congr 1
  grind
 have b5:0≤p*(y - x):=Rat.mul_nonneg a6 (by grind)
 have q1:p*(y - x)≤1*(y - x):=Rat.mul_le_mul_of_nonneg_right p1 (by grind)
 rw [J x (by grind) (by grind),J y (by grind) (by grind),J (x+p*(y - x)) (by grind) (by grind)]
 unfold kG
 have O:(x+p*(y - x) - qt ts k) / (qt ts (k+1) - qt ts k)=(x - qt ts k) / (qt ts (k+1) - qt ts k)+p*((y - qt ts k) / (qt ts (k+1) - qt ts k) - (x - qt ts k) / (qt ts (k+1) - qt ts k)):=by
  rw [Rat.div_def,Rat.div_def,Rat.div_def]
  grind
 rw [O]
 grind
end
end Go.Proofs.YtamcpiicmfielaaGreat.L
namespace Go.Proofs.YtamcpiicmfielaaGreat.L
open Go Go.V Go.RowKit Go.Proofs.YtamcpiicmfielaaGreat.Sp
open Go.Proofs (Tryz.prog)
noncomputable section
structure Lh where
 lo:Nat→List Value→Nat→List Value→Nat→List Value→Nat→List Value→Bool
 ln:Nat→List Value→Nat→List Value→Nat→List Value→Nat→List Value→Bool
 lc:Nat→List Value→Nat→List Value→Nat
 lr:Nat→List Value→Nat→List Value→List Value
def tR (n:Nat) (ts:List Value) (m:Nat) (ps:List Value) (n2:Nat) (us:List Value) (m2:Nat) (qs:List Value):Prop:=n=m∧n2=m2∧n≤10∧n2≤10∧bQ n ts m ps=true∧bb n ts m ps=0∧bQ n2 us m2 qs=true∧bb n2 us m2 qs=0
def iH:Lh where
 lo n ts m ps n2 us m2 qs:= @decide (tR n ts m ps n2 us m2 qs∧bq ts us < aX n ts n2 us) (Classical.propDecidable _)
 ln n ts m ps n2 us m2 qs:= @decide (tR n ts m ps n2 us m2 qs∧¬ bq ts us < aX n ts n2 us) (Classical.propDecidable _)
 lc n ts n2 us:=(bW n ts n2 us).length - 1
 lr n ts n2 us:=bY (bW n ts n2 us)
def Ft (L:Lh):TF:=fun args=>match args with
 | [.agg [.lst _ 27 n f, .lst _ 35 m g], .agg [.lst _ 27 n2 G, .lst _ 35 m2 g2]]=>
  some (aw 3 n f&&aw 6 m g&&(aw 3 n2 G&&aw 6 m2 g2)&&L.lo n (ai 3 n f) m (ai 6 m g) n2 (ai 3 n2 G) m2 (ai 6 m2 g2),
   .tup [.lst false 52 (L.lc n (ai 3 n f) n2 (ai 3 n2 G)) (af 6 (L.lr n (ai 3 n f) n2 (ai 3 n2 G))), .val (.int .i64 0)])
 | _=>none
def Fs (L:Lh):TF:=fun args=>match args with
 | [.agg [.lst _ 27 n f, .lst _ 35 m g], .agg [.lst _ 27 n2 G, .lst _ 35 m2 g2]]=>
  some (aw 3 n f&&aw 6 m g&&(aw 3 n2 G&&aw 6 m2 g2)&&L.ln n (ai 3 n f) m (ai 6 m g) n2 (ai 3 n2 G) m2 (ai 6 m2 g2), .tup [.val (.slice none 0 0), .val (.int .i64 0)])
 | _=>none
theorem XE {n:Nat} {ts:List Value} {m:Nat} {ps:List Value} {n2:Nat} {us:List Value} {m2:Nat} {qs:List Value} (l1:ts.length=n*3) (l2:ps.length=m*6) (l3:us.length=n2*3) (l4:qs.length=m2*6) (h:tR n ts m ps n2 us m2 qs) (J:bq ts us < aX n ts n2 us):
  aG Tryz.prog ⟨lZ bn ad,qp,ox jl cR (sC mh fC (nr cK aq))⟩ 10 10 24 [bO n ts m ps,bO n2 us m2 qs]=some (GK (bW n ts n2 us)):=by
 obtain ⟨rfl,rfl,U,O,G,ca,I,cb⟩:=h
 have ab:=(fo ca).2.1
 have aE:=(fo cb).2.1
 have Z:=CY l1 G ca l3 I cb (Rat.le_of_lt J)
 have M:=Lg l1 G ca l3 I cb J
 obtain ⟨p,rfl⟩:∃ p,n=p+1:= ⟨n - 1,by omega⟩
 obtain ⟨r,rfl⟩:∃ r,n2=r+1:= ⟨n2 - 1,by omega⟩
 exact XH p r ts ps us qs l1 l2 l3 l4 G ca I cb U O Z M.two
theorem VC:Entry Tryz.prog 24 (Ft iH):=by
 refine oL (by kernel_rfl) (fun args r h=> ?_)
 unfold Ft at h
 split at h
 ·rename_i fl n f ab m g aE n2 I a1 m2 g2
  simp only [Option.some.injEq,Prod.mk.injEq,Bool.and_eq_true] at h
  obtain ⟨⟨⟨⟨J,M⟩,O,U⟩,G⟩,rfl⟩:=h
  obtain ⟨G,Z⟩:= @of_decide_eq_true _ (Classical.propDecidable _) G
  exact ⟨⟨lZ bn ad,qp,ox jl cR (sC mh fC (nr cK aq))⟩,10,10,_,_,z7,(Iw (QE (QN aC.none))).ok,XE (dC 3 n f) (dC 6 m g) (dC 3 n2 I) (dC 6 m2 g2) G Z,cm.cons (oX J M) (cm.cons (oX O U) (cm.refl _)),cI.refl _⟩
 ·cases h
theorem XO {n:Nat} {ts ps:List Value} {m:Nat} {us qs:List Value} (l1:ts.length=n*3) (Z:bQ n ts n ps=true) (O:bb n ts n ps=0) (l3:us.length=m*3) (ab:bQ m us m qs=true) (U:bb m us m qs=0) (h:bq ts us=aX n ts m us):(bW n ts m us).length=1:=by
 obtain ⟨a1,I⟩:=Le (qt (ts ++ us)) (bq ts us) (aX n ts m us) (n+m)
 have aE:=CY l1 Z O l3 ab U (by rw [h];exact Rat.le_refl)
 have b0:(bW n ts m us).length≠0:=fun G=>by
  have G:e8 (qt (ts ++ us)) (bq ts us) (aX n ts m us) (n+m)= []:=List.length_eq_zero_iff.1 G
  cases M:bz (qt (ts ++ us)) (bq ts us) (aX n ts m us) (n+m) with
  | nil=>exact aE M
  | cons x l=>
   have:=(I x).2 ((qP _ _ _ x (n+m)).1 (by rw [M];exact List.mem_cons_self))
   rw [G] at this
   cases this
 refine Classical.byContradiction fun b1=> ?_
 have J:1 < (e8 (qt (ts ++ us)) (bq ts us) (aX n ts m us) (n+m)).length:=by show 1 < (bW n ts m us).length;omega
 have b2:=List.pairwise_iff_getElem.1 a1 0 1 (by omega) J (by omega)
 obtain ⟨_,_,_,a6,a7⟩:=(I _).1 (List.getElem_mem (show 0 < (e8 (qt (ts ++ us)) (bq ts us) (aX n ts m us) (n+m)).length by omega))
 obtain ⟨_,_,_,bx,bD⟩:=(I _).1 (List.getElem_mem J)
 grind
theorem XD {n:Nat} {ts:List Value} {m:Nat} {ps:List Value} {n2:Nat} {us:List Value} {m2:Nat} {qs:List Value} (l1:ts.length=n*3) (l2:ps.length=m*6) (l3:us.length=n2*3) (l4:qs.length=m2*6) (h:tR n ts m ps n2 us m2 qs) (a6:¬ bq ts us < aX n ts n2 us):
  ∃ E:Env,bf Tryz.prog E.C∧dg Tryz.prog E∧aG Tryz.prog E 10 10 24 [bO n ts m ps,bO n2 us m2 qs]=some (.tup [.val (.slice none 0 0), .val (.int .i64 0)]):=by
 obtain ⟨rfl,rfl,O,M,G,ca,I,cb⟩:=h
 have aE:=(fo ca).2.1
 have a1:=(fo cb).2.1
 by_cases J:bq ts us=aX n ts n2 us
 ·have Z:=CY l1 G ca l3 I cb (by rw [J];exact Rat.le_refl)
  have U:=XO l1 G ca l3 I cb J
  obtain ⟨p,rfl⟩:∃ p,n=p+1:= ⟨n - 1,by omega⟩
  obtain ⟨r,rfl⟩:∃ r,n2=r+1:= ⟨n2 - 1,by omega⟩
  exact ⟨_,z7,(Iw (QO aC.none)).ok,XG p r ts ps us qs l1 l2 l3 l4 G ca I cb O M Z U⟩
 ·have ab:=Wn (S:=qt (ts ++ us)) (N:=n+n2) (lo:=bq ts us) (hi:=aX n ts n2 us) (by grind)
  obtain ⟨p,rfl⟩:∃ p,n=p+1:= ⟨n - 1,by omega⟩
  obtain ⟨r,rfl⟩:∃ r,n2=r+1:= ⟨n2 - 1,by omega⟩
  exact ⟨_,z7,(Qm aC.none).ok,XF p r ts ps us qs l1 l2 l3 l4 G ca I cb O M ab⟩
theorem VB:Entry Tryz.prog 24 (Fs iH):=by
 refine oL (by kernel_rfl) (fun args r h=> ?_)
 unfold Fs at h
 split at h
 ·rename_i fl n f a1 m g a6 n2 I a7 m2 g2
  simp only [Option.some.injEq,Prod.mk.injEq,Bool.and_eq_true] at h
  obtain ⟨⟨⟨⟨J,M⟩,O,U⟩,G⟩,rfl⟩:=h
  obtain ⟨G,Z⟩:= @of_decide_eq_true _ (Classical.propDecidable _) G
  obtain ⟨E,k1,ab,aE⟩:=XD (dC 3 n f) (dC 6 m g) (dC 3 n2 I) (dC 6 m2 g2) G Z
  exact ⟨E,10,10,_,_,k1,ab,aE,cm.cons (oX J M) (cm.cons (oX O U) (cm.refl _)),cI.refl _⟩
 ·cases h
end
end Go.Proofs.YtamcpiicmfielaaGreat.L
