import Derived.Test.YtamcpiicmfielaaGreatZJA
import Derived.Test.YtamcpiicmfielaaGreatZHW
import Derived.Test.YtamcpiicmfielaaGreatZJB
set_option linter.unusedVariables false
set_option linter.unusedSimpArgs false
namespace Go.Proofs.YtamcpiicmfielaaGreat.L
open Go Go.V Go.RowKit Go.Proofs.YtamcpiicmfielaaGreat.Sp
open Go.Proofs (Tryz.prog)
noncomputable section
def w4 (G:Qg):Env:= ⟨aw 23 (cZ (qK G)) aK,au,aq⟩
abbrev nc:List Bool:= [false,true,false,true,true,true,true,true,true]
def jl (k N:Nat) (n i:Int) (w1 w2 w3 z1 z2 z3:Value) (us cs:List Value):List AV:=ar 108 [(6, .ptr 0 0),(7, .ptr 1 0),(9, .sl false 27 2 0 k),(63, .sl false 27 3 0 N),(64, .val (.int .i64 n)),(65, .val (.int .i64 i))]
def iN (k N:Nat) (n i:Int) (w1 w2 w3 z1 z2 z3:Value) (us cs:List Value):Hp:= [.row (.cells [.val w1,.val w2,.val w3]) 27 .live, .row (.cells [.val z1,.val z2,.val z3]) 27 .live, .row (.vals us) 27 .live, .row (.vals cs) 27 .live]
theorem Vj:aH Tryz.prog 24 (false :: nc)=some (lb 24 nc):=by kernel_rfl
theorem O4 (G:Qg) (k N:Nat) (n i:Int) (w1 w2 w3 z1 z2 z3:Value) (us cs:List Value):letI I:=(cs.getD (0+i.toNat*3+1+1) undef);letI J:=(cs.getD (0+i.toNat*3+1) undef);letI O:Option (Ex×List AV×Hp):=(bif ai IntKind.i64 (i+1) then some (.normal,ar 108 [(6,(.ptr 0 0)),(7,(.ptr 1 0)),(9,(.sl false 27 2 0 k)),(63,(.sl false 27 3 0 N)),(64,(.val (.int .i64 n))),(65,(.val (.int .i64 (i+1))))], [(.row (.cells [(.val (w1)),(.val (w2)),(.val (w3))]) 27 .live),(.row (.cells [(.val (z1)),(.val (z2)),(.val (z3))]) 27 .live),(.row (.vals us) 27 .live),(.row (.vals cs) 27 .live)]) else none);letI M:=(cs.getD (0+i.toNat*3) undef);
  (aO Tryz.prog (w4 G) 24 [6,7,9,63,64,65] (lb 24 nc) (false :: nc) (jl k N n i w1 w2 w3 z1 z2 z3 us cs) (iN k N n i w1 w2 w3 z1 z2 z3 us cs)=(bif decide (i < n) then (bif decide (0≤i)&&decide (i < (↑N:Int)) then (bif decide (0+i.toNat*3 < cs.length) then (bif decide (0+i.toNat*3+1 < cs.length) then (bif decide (0+i.toNat*3+1+1 < cs.length) then (bif [AV.val M,AV.val J,AV.val I].all bB then (bif aY w1 w2 w3&&aY M J I&&(G.ok (ah w2) (ah w3)&&G.ok (ah J) (ah I)) then (bif decide (G.cq (G.qv (az w1) (ah w2) (ah w3)) (G.qv (az M) (ah J) (ah I))≤0) then (bif aY M J I&&aY z1 z2 z3&&(G.ok (ah J) (ah I)&&G.ok (ah z2) (ah z3)) then (bif decide (G.cq (G.qv (az M) (ah J) (ah I)) (G.qv (az z1) (ah z2) (ah z3))≤0) then (bif [AV.val M,AV.val J,AV.val I].all bB then (bif decide (k*3≤(ao.vals us).len)&&aU Tryz.prog (k+1) 27&&((dC (intKind Tryz.prog 27) [AV.val M,AV.val J,AV.val I]).sub 0 3).bk then (bif ai IntKind.i64 (i+1) then some (.normal,ar 108 [(6,(.ptr 0 0)),(7,(.ptr 1 0)),(9,(.sl false 27 2 0 (k+1))),(63,(.sl false 27 3 0 N)),(64,(.val (.int .i64 n))),(65,(.val (.int .i64 (i+1))))], [(.row (.cells [(.val (w1)),(.val (w2)),(.val (w3))]) 27 .live),(.row (.cells [(.val (z1)),(.val (z2)),(.val (z3))]) 27 .live),(.row (.vals ((List.take (k*3) us) ++ ([M,J,I]:List Value))) 27 .live),(.row (.vals cs) 27 .live)]) else none) else none) else none) else O) else none) else O) else none) else none) else none) else none) else none) else none) else some ((.exit 0),ar 108 [(6,(.ptr 0 0)),(7,(.ptr 1 0)),(9,(.sl false 27 2 0 k)),(63,(.sl false 27 3 0 N)),(64,(.val (.int .i64 n))),(65,(.val (.int .i64 i)))], [(.row (.cells [(.val (w1)),(.val (w2)),(.val (w3))]) 27 .live),(.row (.cells [(.val (z1)),(.val (z2)),(.val (z3))]) 27 .live),(.row (.vals us) 27 .live),(.row (.vals cs) 27 .live)]))):=by kernel_rfl
theorem Af {k N:Nat} {n i:Int} {w1 w2 w3 z1 z2 z3:Value} {us cs:List Value} {e:Ex} {T:List AV} {H:Hp} (h:aO Tryz.prog (w4 af) 24 [6,7,9,63,64,65] (lb 24 nc) (false :: nc) (jl k N n i w1 w2 w3 z1 z2 z3 us cs) (iN k N n i w1 w2 w3 z1 z2 z3 us cs)=some (e,T,H)):V.Ends Tryz.prog false 0 0 (lb 24 nc) (jl k N n i w1 w2 w3 z1 z2 z3 us cs) (iN k N n i w1 w2 w3 z1 z2 z3 us cs) e T H:=
 bF ((aJ _).add pC.cZ) aN mixed Vj h
theorem dU {a b:Rat} :af.cq a b≤0↔a≤b:=by
 show iG a b≤0↔_
 unfold iG
 split
 ·rename_i h;exact ⟨fun _=>by grind,fun _=>by omega⟩
 ·split
  ·rename_i G I;exact ⟨fun h=>by omega,fun h=>by grind⟩
  ·rename_i G I;exact ⟨fun _=>by grind,fun _=>by omega⟩
theorem xK (x:Rat):aL [x]=dD x:=List.append_nil _
def bn (S:Nat→Rat) (lo hi:Rat):Nat→List Rat
 | 0=> []
 | j+1=>if lo≤S j∧S j≤hi then bn S lo hi j ++ [S j] else bn S lo hi j
theorem Du (S:Nat→Rat) (lo hi:Rat):∀ j,(bn S lo hi j).length≤j
 | 0=>Nat.le_refl _
 | j+1=>by
  have:=Du S lo hi j
  unfold bn
  split
  ·rw [List.length_append];show _+1≤_;omega
  ·omega
def rv (x y z:Value):Rat:=af.qv (az x) (ah y) (ah z)
structure cL (N:Nat) (cs:List Value) (w1 w2 w3 z1 z2 z3:Value):Prop where
 lim:N≤1000
 can:cs=cp N (qt cs)
 sz:∀ j,j < N→cK (qt cs j)≤1000
 wr:aY w1 w2 w3=true
 lo:c9 (ah w2) (ah w3)=true
 zr:aY z1 z2 z3=true
 hi:c9 (ah z2) (ah z3)=true
theorem ma (b:Bool) (s d:BA): [AV.val (.bool b), .val (.string s), .val (.string d)].all bB=true:=rfl
theorem Em (b:Bool) (s d:BA):((dC (intKind Tryz.prog 27) [AV.val (.bool b), .val (.string s), .val (.string d)]).sub 0 3).bk=true:=by kernel_rfl
section
variable {N : Nat} {w1 w2 w3 z1 z2 z3 : Value} {us cs : List Value}
theorem aad (h:cL N cs w1 w2 w3 z1 z2 z3) (j:Nat) (O:j < N) (l:List Rat) (a6:l.length≤j):V.Ends Tryz.prog false 0 0 (lb 24 nc) (jl l.length N N j w1 w2 w3 z1 z2 z3 (aL l) cs) (iN l.length N N j w1 w2 w3 z1 z2 z3 (aL l) cs) .normal
  (jl (if rv w1 w2 w3≤qt cs j∧qt cs j≤rv z1 z2 z3 then l ++ [qt cs j] else l).length N N ((j+1:Nat):Int) w1 w2 w3 z1 z2 z3 (aL (if rv w1 w2 w3≤qt cs j∧qt cs j≤rv z1 z2 z3 then l ++ [qt cs j] else l)) cs)
  (iN (if rv w1 w2 w3≤qt cs j∧qt cs j≤rv z1 z2 z3 then l ++ [qt cs j] else l).length N N ((j+1:Nat):Int) w1 w2 w3 z1 z2 z3 (aL (if rv w1 w2 w3≤qt cs j∧qt cs j≤rv z1 z2 z3 then l ++ [qt cs j] else l)) cs):=by
 have a7:=h.lim
 have a1:cs.length=N*3:=by rw [h.can,iE]
 have bx:=h.sz j O
 obtain ⟨U,Z,ab⟩:=jH h.can j O
 have G:=O4 af l.length N N j w1 w2 w3 z1 z2 z3 (aL l) cs
 have e0:(ao.vals (aL l)).len=l.length*3:=mM l
 have aE:List.take (l.length*3) (aL l)=aL l:=List.take_of_length_le (Nat.le_of_eq (mM l))
 simp only [Int.toNat_natCast,Nat.zero_add,U,Z,ab,e0,aE,Nat.le_refl,decide_true,Bool.true_and,ma,Em,oy] at G
 rw [dT (show (j:Int) < (N:Int) by omega),dT (show (0:Int)≤(j:Int) by omega),dT (show j*3 < cs.length by omega),dT (show j*3+1 < cs.length by omega),dT (show j*3+1+1 < cs.length by omega),aM (z:=(j:Int)+1) (by omega),h.wr,h.zr,fD h.lo,fD h.hi,fL (m:=l.length+1) (by omega),
  show af.ok (ah (.string (af.qs (qt cs j)))) (ah (.string (af.qd (qt cs j))))=true from rW (by omega),show af.qv (az (.bool (af.qn (qt cs j)))) (ah (.string (af.qs (qt cs j)))) (ah (.string (af.qd (qt cs j))))=qt cs j from fK _,show af.qv (az w1) (ah w2) (ah w3)=rv w1 w2 w3 from rfl,show af.qv (az z1) (ah z2) (ah z3)=rv z1 z2 z3 from rfl] at G
 by_cases J:rv w1 w2 w3≤qt cs j
 ·rw [dT (dU.2 J)] at G
  by_cases M:qt cs j≤rv z1 z2 z3
  ·rw [dT (dU.2 M)] at G
   rw [if_pos ⟨J,M⟩,ri,xK,List.length_append]
   exact Af G
  ·rw [dF (fun I=>M (dU.1 I))] at G
   rw [if_neg (fun I=>M I.2)]
   exact Af G
 ·rw [dF (fun I=>J (dU.1 I))] at G
  rw [if_neg (fun I=>J I.1)]
  exact Af G
theorem aac (h:cL N cs w1 w2 w3 z1 z2 z3) (k:Nat):∀ j:Nat,N=j+k→av Tryz.prog (lb 24 nc) (jl (bn (qt cs) (rv w1 w2 w3) (rv z1 z2 z3) j).length N N j w1 w2 w3 z1 z2 z3 (aL (bn (qt cs) (rv w1 w2 w3) (rv z1 z2 z3) j)) cs) (iN (bn (qt cs) (rv w1 w2 w3) (rv z1 z2 z3) j).length N N j w1 w2 w3 z1 z2 z3 (aL (bn (qt cs) (rv w1 w2 w3) (rv z1 z2 z3) j)) cs) (.exit 0) (jl (bn (qt cs) (rv w1 w2 w3) (rv z1 z2 z3) N).length N N N w1 w2 w3 z1 z2 z3 (aL (bn (qt cs) (rv w1 w2 w3) (rv z1 z2 z3) N)) cs) (iN (bn (qt cs) (rv w1 w2 w3) (rv z1 z2 z3) N).length N N N w1 w2 w3 z1 z2 z3 (aL (bn (qt cs) (rv w1 w2 w3) (rv z1 z2 z3) N)) cs):=by
 induction k with
 | zero=>
  intro j G
  have:N=j:=by omega
  subst this
  refine .last (Af ?_) (by intro h;cases h)
  rw [O4,dF (show ¬ (N:Int) < (N:Int) by omega)]
  rfl
 | succ k I=>
  intro j G
  exact .more (aad h j (by omega) _ (Du _ _ _ j)) (I (j+1) (by omega))
end
abbrev eF:List Bool:= [false,true,false,true,true,true,true,true,true]
def kH (N:Nat) (n i:Int) (w1 w2 w3 z1 z2 z3:Value) (cs:List Value):List AV:=ar 108 [(6, .ptr 0 0),(7, .ptr 1 0),(9, .val (.slice none 0 0)),(63, .sl false 27 2 0 N),(64, .val (.int .i64 n)),(65, .val (.int .i64 i))]
def jP (N:Nat) (n i:Int) (w1 w2 w3 z1 z2 z3:Value) (cs:List Value):Hp:= [.row (.cells [.val w1,.val w2,.val w3]) 27 .live, .row (.cells [.val z1,.val z2,.val z3]) 27 .live, .row (.vals cs) 27 .live]
theorem TC:aH Tryz.prog 24 eF=some (.loop (lb 24 eF)):=by kernel_rfl
theorem Vi:aH Tryz.prog 24 (false :: eF)=some (lb 24 eF):=by kernel_rfl
theorem Fz (G:Qg) (N:Nat) (n i:Int) (w1 w2 w3 z1 z2 z3:Value) (cs:List Value):letI I:=(cs.getD (0+i.toNat*3+1+1) undef);letI J:=(cs.getD (0+i.toNat*3+1) undef);letI O:Option (Ex×List AV×Hp):=(bif ai IntKind.i64 (i+1) then some (.normal,ar 108 [(6,(.ptr 0 0)),(7,(.ptr 1 0)),(9,(.val (.slice .none 0 0))),(63,(.sl false 27 2 0 N)),(64,(.val (.int .i64 n))),(65,(.val (.int .i64 (i+1))))], [(.row (.cells [(.val (w1)),(.val (w2)),(.val (w3))]) 27 .live),(.row (.cells [(.val (z1)),(.val (z2)),(.val (z3))]) 27 .live),(.row (.vals cs) 27 .live)]) else none);letI M:=(cs.getD (0+i.toNat*3) undef);
  (aO Tryz.prog (w4 G) 24 [6,7,9,63,64,65] (lb 24 eF) (false :: eF) (kH N n i w1 w2 w3 z1 z2 z3 cs) (jP N n i w1 w2 w3 z1 z2 z3 cs)=(bif decide (i < n) then (bif decide (0≤i)&&decide (i < (↑N:Int)) then (bif decide (0+i.toNat*3 < cs.length) then (bif decide (0+i.toNat*3+1 < cs.length) then (bif decide (0+i.toNat*3+1+1 < cs.length) then (bif [AV.val M,AV.val J,AV.val I].all bB then (bif aY w1 w2 w3&&aY M J I&&(G.ok (ah w2) (ah w3)&&G.ok (ah J) (ah I)) then (bif decide (G.cq (G.qv (az w1) (ah w2) (ah w3)) (G.qv (az M) (ah J) (ah I))≤0) then (bif aY M J I&&aY z1 z2 z3&&(G.ok (ah J) (ah I)&&G.ok (ah z2) (ah z3)) then (bif decide (G.cq (G.qv (az M) (ah J) (ah I)) (G.qv (az z1) (ah z2) (ah z3))≤0) then (bif [AV.val M,AV.val J,AV.val I].all bB then (bif ai IntKind.i64 (i+1) then some (.normal,ar 108 [(6,(.ptr 0 0)),(7,(.ptr 1 0)),(9,(.sl false 27 2 0 1)),(63,(.sl false 27 3 0 N)),(64,(.val (.int .i64 n))),(65,(.val (.int .i64 (i+1))))], [(.row (.cells [(.val (w1)),(.val (w2)),(.val (w3))]) 27 .live),(.row (.cells [(.val (z1)),(.val (z2)),(.val (z3))]) 27 .live),(.row (.cells [(.val M),(.val J),(.val I)]) 27 .live),(.row (.vals cs) 27 .live)]) else none) else none) else O) else none) else O) else none) else none) else none) else none) else none) else none) else some ((.exit 0),ar 108 [(6,(.ptr 0 0)),(7,(.ptr 1 0)),(9,(.val (.slice .none 0 0))),(63,(.sl false 27 2 0 N)),(64,(.val (.int .i64 n))),(65,(.val (.int .i64 i)))], [(.row (.cells [(.val (w1)),(.val (w2)),(.val (w3))]) 27 .live),(.row (.cells [(.val (z1)),(.val (z2)),(.val (z3))]) 27 .live),(.row (.vals cs) 27 .live)]))):=by kernel_rfl
theorem Ae {N:Nat} {n i:Int} {w1 w2 w3 z1 z2 z3:Value} {cs:List Value} {e:Ex} {T:List AV} {H:Hp} (h:aO Tryz.prog (w4 af) 24 [6,7,9,63,64,65] (lb 24 eF) (false :: eF) (kH N n i w1 w2 w3 z1 z2 z3 cs) (jP N n i w1 w2 w3 z1 z2 z3 cs)=some (e,T,H)):V.Ends Tryz.prog false 0 0 (lb 24 eF) (kH N n i w1 w2 w3 z1 z2 z3 cs) (jP N n i w1 w2 w3 z1 z2 z3 cs) e T H:=
 bF ((aJ _).add pC.cZ) aN mixed Vi h
section
variable {N : Nat} {w1 w2 w3 z1 z2 z3 : Value} {us cs : List Value}
def Mr (w1 w2 w3 z1 z2 z3:Value) (x:Rat) (cs:List Value):Hp:= [.row (.cells [.val w1, .val w2, .val w3]) 27 .live, .row (.cells [.val z1, .val z2, .val z3]) 27 .live, .row (.cells [.val (.bool (af.qn x)), .val (.string (af.qs x)), .val (.string (af.qd x))]) 27 .live, .row (.vals cs) 27 .live]
theorem Zf {k:Nat} {n i:Int} {x:Rat} :bC Tryz.prog (Mr w1 w2 w3 z1 z2 z3 x cs) (iN k N n i w1 w2 w3 z1 z2 z3 (aL [x]) cs):=
 bC.cons (fM.refl _) (bC.cons (fM.refl _) (bC.cons ⟨zY (by rw [xK];rfl),rfl,rfl⟩ (bC.cons (fM.refl _) bC.nil)))
theorem ZG (h:cL N cs w1 w2 w3 z1 z2 z3) (j:Nat) (I:j < N) (U:rv w1 w2 w3≤qt cs j) (Z:qt cs j≤rv z1 z2 z3):V.Ends Tryz.prog false 0 0 (lb 24 eF) (kH N N j w1 w2 w3 z1 z2 z3 cs) (jP N N j w1 w2 w3 z1 z2 z3 cs) .normal (jl 1 N N ((j+1:Nat):Int) w1 w2 w3 z1 z2 z3 (aL [qt cs j]) cs) (Mr w1 w2 w3 z1 z2 z3 (qt cs j) cs):=by
 have aE:=h.lim
 have ab:cs.length=N*3:=by rw [h.can,iE]
 have a1:=h.sz j I
 obtain ⟨J,M,O⟩:=jH h.can j I
 have G:=Fz af N N j w1 w2 w3 z1 z2 z3 cs
 simp only [Int.toNat_natCast,Nat.zero_add,J,M,O,ma,oy] at G
 rw [dT (show (j:Int) < (N:Int) by omega),dT (show (0:Int)≤(j:Int) by omega),dT (show j*3 < cs.length by omega),dT (show j*3+1 < cs.length by omega),dT (show j*3+1+1 < cs.length by omega),aM (z:=(j:Int)+1) (by omega),h.wr,h.zr,fD h.lo,fD h.hi,
  show af.ok (ah (.string (af.qs (qt cs j)))) (ah (.string (af.qd (qt cs j))))=true from rW (by omega),show af.qv (az (.bool (af.qn (qt cs j)))) (ah (.string (af.qs (qt cs j)))) (ah (.string (af.qd (qt cs j))))=qt cs j from fK _,dT (show af.cq (af.qv (az w1) (ah w2) (ah w3)) (qt cs j)≤0 from dU.2 U),dT (show af.cq (qt cs j) (af.qv (az z1) (ah z2) (ah z3))≤0 from dU.2 Z)] at G
 exact Ae G
theorem MN (h:cL N cs w1 w2 w3 z1 z2 z3) (j:Nat) (M:j < N) (ab:¬ (rv w1 w2 w3≤qt cs j∧qt cs j≤rv z1 z2 z3)):V.Ends Tryz.prog false 0 0 (lb 24 eF) (kH N N j w1 w2 w3 z1 z2 z3 cs) (jP N N j w1 w2 w3 z1 z2 z3 cs) .normal (kH N N ((j+1:Nat):Int) w1 w2 w3 z1 z2 z3 cs) (jP N N ((j+1:Nat):Int) w1 w2 w3 z1 z2 z3 cs):=by
 have a1:=h.lim
 have aE:cs.length=N*3:=by rw [h.can,iE]
 have a6:=h.sz j M
 obtain ⟨O,U,Z⟩:=jH h.can j M
 have G:=Fz af N N j w1 w2 w3 z1 z2 z3 cs
 simp only [Int.toNat_natCast,Nat.zero_add,O,U,Z,ma,oy] at G
 rw [dT (show (j:Int) < (N:Int) by omega),dT (show (0:Int)≤(j:Int) by omega),dT (show j*3 < cs.length by omega),dT (show j*3+1 < cs.length by omega),dT (show j*3+1+1 < cs.length by omega),aM (z:=(j:Int)+1) (by omega),h.wr,h.zr,fD h.lo,fD h.hi,
  show af.ok (ah (.string (af.qs (qt cs j)))) (ah (.string (af.qd (qt cs j))))=true from rW (by omega),show af.qv (az (.bool (af.qn (qt cs j)))) (ah (.string (af.qs (qt cs j)))) (ah (.string (af.qd (qt cs j))))=qt cs j from fK _,show af.qv (az w1) (ah w2) (ah w3)=rv w1 w2 w3 from rfl,show af.qv (az z1) (ah z2) (ah z3)=rv z1 z2 z3 from rfl] at G
 by_cases I:rv w1 w2 w3≤qt cs j
 ·rw [dT (dU.2 I),dF (fun J=>ab ⟨I,dU.1 J⟩)] at G
  exact Ae G
 ·rw [dF (fun J=>I (dU.1 J))] at G
  exact Ae G
theorem ZF (h:cL N cs w1 w2 w3 z1 z2 z3) (O:bn (qt cs) (rv w1 w2 w3) (rv z1 z2 z3) N≠ []) (k:Nat):∀ j:Nat,N=j+k→bn (qt cs) (rv w1 w2 w3) (rv z1 z2 z3) j= []→av Tryz.prog (lb 24 eF) (kH N N j w1 w2 w3 z1 z2 z3 cs) (jP N N j w1 w2 w3 z1 z2 z3 cs) (.exit 0) (jl (bn (qt cs) (rv w1 w2 w3) (rv z1 z2 z3) N).length N N N w1 w2 w3 z1 z2 z3 (aL (bn (qt cs) (rv w1 w2 w3) (rv z1 z2 z3) N)) cs) (iN (bn (qt cs) (rv w1 w2 w3) (rv z1 z2 z3) N).length N N N w1 w2 w3 z1 z2 z3 (aL (bn (qt cs) (rv w1 w2 w3) (rv z1 z2 z3) N)) cs):=by
 induction k with
 | zero=>
  intro j M I
  have:N=j:=by omega
  subst this
  exact absurd I O
 | succ k U=>
  intro j M I
  by_cases G:rv w1 w2 w3≤qt cs j∧qt cs j≤rv z1 z2 z3
  ·have e1:bn (qt cs) (rv w1 w2 w3) (rv z1 z2 z3) (j+1)= [qt cs j]:=by
    unfold bn
    rw [if_pos G,I];rfl
   have J:=aac h k (j+1) (by omega)
   rw [e1] at J
   exact .more (ZG h j (by omega) G.1 G.2) (J.gJ Zf)
  ·exact .more (MN h j (by omega) G) (U (j+1) (by omega) (by unfold bn;rw [if_neg G,I]))
theorem ZH (h:cL N cs w1 w2 w3 z1 z2 z3) (U:bn (qt cs) (rv w1 w2 w3) (rv z1 z2 z3) N= []) (k:Nat):∀ j:Nat,N=j+k→av Tryz.prog (lb 24 eF) (kH N N j w1 w2 w3 z1 z2 z3 cs) (jP N N j w1 w2 w3 z1 z2 z3 cs) (.exit 0) (kH N N N w1 w2 w3 z1 z2 z3 cs) (jP N N N w1 w2 w3 z1 z2 z3 cs):=by
 have O:∀ d j,bn (qt cs) (rv w1 w2 w3) (rv z1 z2 z3) (j+d)= []→bn (qt cs) (rv w1 w2 w3) (rv z1 z2 z3) j= []:=by
  intro d
  induction d with
  | zero=>intro j G;exact G
  | succ d ab=>
   intro j G
   refine ab j ?_
   rw [← Nat.add_assoc] at G
   unfold bn at G
   split at G
   ·exact absurd G (by simp)
   ·exact G
 induction k with
 | zero=>
  intro j J
  have:N=j:=by omega
  subst this
  refine .last (Ae ?_) (by intro h;cases h)
  rw [Fz,dF (show ¬ (N:Int) < (N:Int) by omega)]
  rfl
 | succ k Z=>
  intro j J
  refine .more (MN h j (by omega) fun M=> ?_) (Z (j+1) (by omega))
  have I:=O k (j+1) (by rw [show j+1+k=N by omega];exact U)
  unfold bn at I
  rw [if_pos M] at I
  exact absurd I (by simp)
end
def vp (N:Nat) (n i:Int) (w1 w2 w3 z1 z2 z3:Value) (cs:List Value):Prop:=n=N∧i=0∧cL N cs w1 w2 w3 z1 z2 z3∧bn (qt cs) (rv w1 w2 w3) (rv z1 z2 z3) N≠ []
def EK (N:Nat) (n i:Int) (w1 w2 w3 z1 z2 z3:Value) (cs:List Value) (ρ:Nat×Int×List Value):Prop:=ρ.1=(bn (qt cs) (rv w1 w2 w3) (rv z1 z2 z3) N).length∧ρ.2.2=aL (bn (qt cs) (rv w1 w2 w3) (rv z1 z2 z3) N)
theorem aaH (N:Nat) (n i:Int) (w1 w2 w3 z1 z2 z3:Value) (cs:List Value) (h:vp N n i w1 w2 w3 z1 z2 z3 cs):∃ ρ:Nat×Int×List Value,av Tryz.prog (lb 24 eF) (kH N n i w1 w2 w3 z1 z2 z3 cs) (jP N n i w1 w2 w3 z1 z2 z3 cs) (.exit 0) (jl ρ.1 N n ρ.2.1 w1 w2 w3 z1 z2 z3 ρ.2.2 cs) (iN ρ.1 N n ρ.2.1 w1 w2 w3 z1 z2 z3 ρ.2.2 cs)∧EK N n i w1 w2 w3 z1 z2 z3 cs ρ:=by
 obtain ⟨rfl,rfl,G,I⟩:=h
 exact ⟨(_,(N:Int),_),ZF G I N 0 (by omega) rfl,rfl,rfl⟩
def Hl (I:Nat→Int→Int→Value→Value→Value→Value→Value→Value→List Value→Bool) (G:Nat→Int→Int→Value→Value→Value→Value→Value→Value→List Value→Nat×Int×List Value) (T:List AV) (H:Hp):Option (Bool×Ex×List AV×Hp):=
 match al T 6,al T 7,al T 9,al T 63,al T 64,al T 65,H with
 | .ptr 0 0, .ptr 1 0, .val (.slice none 0 0), .sl false 27 2 0 N, .val (.int .i64 n), .val (.int .i64 i), [.row (.cells [.val w1,.val w2,.val w3]) 27 .live, .row (.cells [.val z1,.val z2,.val z3]) 27 .live, .row (.vals cs) 27 .live]=>bif T.length==108 then some (I N n i w1 w2 w3 z1 z2 z3 cs, .exit 0,jl ((G N n i w1 w2 w3 z1 z2 z3 cs).1) N n ((G N n i w1 w2 w3 z1 z2 z3 cs).2.1) w1 w2 w3 z1 z2 z3 ((G N n i w1 w2 w3 z1 z2 z3 cs).2.2) cs,iN ((G N n i w1 w2 w3 z1 z2 z3 cs).1) N n ((G N n i w1 w2 w3 z1 z2 z3 cs).2.1) w1 w2 w3 z1 z2 z3 ((G N n i w1 w2 w3 z1 z2 z3 cs).2.2) cs) else none
 | _,_,_,_,_,_,_=>none
abbrev BH:Type:=Nat→Int→Int→Value→Value→Value→Value→Value→Value→List Value→Bool
abbrev Bl:Type:=Nat→Int→Int→Value→Value→Value→Value→Value→Value→List Value→Nat×Int×List Value
def nS (G:BH) (I:Bl) (L:aC):aC:=bp 0 24 eF [6,7,9,63,64,65] (Hl G I) L
def cT (N:Nat) (n i:Int) (w1 w2 w3 z1 z2 z3:Value) (cs:List Value):Nat×Int×List Value:=Classical.epsilon fun ρ=>av Tryz.prog (lb 24 eF) (kH N n i w1 w2 w3 z1 z2 z3 cs) (jP N n i w1 w2 w3 z1 z2 z3 cs) (.exit 0) (jl (ρ.1) N n (ρ.2.1) w1 w2 w3 z1 z2 z3 (ρ.2.2) cs) (iN (ρ.1) N n (ρ.2.1) w1 w2 w3 z1 z2 z3 (ρ.2.2) cs)∧EK N n i w1 w2 w3 z1 z2 z3 cs ρ
theorem Oe (N:Nat) (n i:Int) (w1 w2 w3 z1 z2 z3:Value) (cs:List Value) (h:vp N n i w1 w2 w3 z1 z2 z3 cs):av Tryz.prog (lb 24 eF) (kH N n i w1 w2 w3 z1 z2 z3 cs) (jP N n i w1 w2 w3 z1 z2 z3 cs) (.exit 0) (jl ((cT N n i w1 w2 w3 z1 z2 z3 cs).1) N n ((cT N n i w1 w2 w3 z1 z2 z3 cs).2.1) w1 w2 w3 z1 z2 z3 ((cT N n i w1 w2 w3 z1 z2 z3 cs).2.2) cs) (iN ((cT N n i w1 w2 w3 z1 z2 z3 cs).1) N n ((cT N n i w1 w2 w3 z1 z2 z3 cs).2.1) w1 w2 w3 z1 z2 z3 ((cT N n i w1 w2 w3 z1 z2 z3 cs).2.2) cs)∧EK N n i w1 w2 w3 z1 z2 z3 cs (cT N n i w1 w2 w3 z1 z2 z3 cs):=Classical.epsilon_spec (aaH N n i w1 w2 w3 z1 z2 z3 cs h)
def jI (N:Nat) (n i:Int) (w1 w2 w3 z1 z2 z3:Value) (cs:List Value):Bool:= @decide (vp N n i w1 w2 w3 z1 z2 z3 cs) (Classical.propDecidable _)
theorem Wg (N:Nat) (n i:Int) (w1 w2 w3 z1 z2 z3:Value) (cs:List Value) (h:vp N n i w1 w2 w3 z1 z2 z3 cs):jI N n i w1 w2 w3 z1 z2 z3 cs=true:= @decide_eq_true _ (Classical.propDecidable _) h
theorem agj (T:List AV) (H:Hp) (e:Ex) (J:List AV) (I:Hp) (h:Hl jI cT T H=some (true,e,J,I)):V.Ends Tryz.prog false 0 0 (.loop (lb 24 eF)) T H e J I:=by
 unfold Hl at h
 split at h
 ·rename_i N n i w1 w2 w3 z1 z2 z3 cs U a1 a6 Z ab aE
  rw [Bool.cond_eq_ite] at h
  split at h
  ·rename_i M
   rw [beq_iff_eq] at M
   simp only [Option.some.injEq,Prod.mk.injEq,Bool.and_eq_true,decide_eq_true_eq] at h
   obtain ⟨k1,rfl,rfl,rfl⟩:=h
   have bx:= @of_decide_eq_true _ (Classical.propDecidable _) k1
   refine Ends.pre (Oe N n i w1 w2 w3 z1 z2 z3 cs bx).1.ends (fun α B w D bD a7=>bq M (fun p O y G=> ?_) a7)
   simp only [List.mem_cons,List.not_mem_nil,or_false] at O
   rcases O with rfl | rfl | rfl | rfl | rfl | rfl
   ·rw [U] at G;exact G
   ·rw [a1] at G;exact G
   ·rw [a6] at G;exact G
   ·rw [Z] at G;exact G
   ·rw [ab] at G;exact G
   ·rw [aE] at G;exact G
  ·cases h
 ·cases h
theorem J3 {L:aC} (h:aB Tryz.prog L):aB Tryz.prog (nS jI cT L):=h.bz TC agj
abbrev qj:List Bool:= [false,true,false,true,true,true,true,true,true]
def qD (N:Nat) (n i:Int) (w1 w2 w3 z1 z2 z3:Value) (cs:List Value):List AV:=ar 108 [(6, .ptr 0 0),(7, .ptr 1 0),(9, .val (.slice none 0 0)),(63, .sl false 27 2 0 N),(64, .val (.int .i64 n)),(65, .val (.int .i64 i))]
def pL (N:Nat) (n i:Int) (w1 w2 w3 z1 z2 z3:Value) (cs:List Value):Hp:= [.row (.cells [.val w1,.val w2,.val w3]) 27 .live, .row (.cells [.val z1,.val z2,.val z3]) 27 .live, .row (.vals cs) 27 .live]
theorem TD:aH Tryz.prog 24 qj=some (.loop (lb 24 qj)):=by kernel_rfl
def zI (N:Nat) (n i:Int) (w1 w2 w3 z1 z2 z3:Value) (cs:List Value):Prop:=n=N∧i=0∧cL N cs w1 w2 w3 z1 z2 z3∧bn (qt cs) (rv w1 w2 w3) (rv z1 z2 z3) N= []
def EL (N:Nat) (n i:Int) (w1 w2 w3 z1 z2 z3:Value) (cs:List Value) (ρ:Int):Prop:=ρ=N
theorem aaI (N:Nat) (n i:Int) (w1 w2 w3 z1 z2 z3:Value) (cs:List Value) (h:zI N n i w1 w2 w3 z1 z2 z3 cs):∃ ρ:Int,av Tryz.prog (lb 24 qj) (qD N n i w1 w2 w3 z1 z2 z3 cs) (pL N n i w1 w2 w3 z1 z2 z3 cs) (.exit 0) (qD N n ρ w1 w2 w3 z1 z2 z3 cs) (pL N n ρ w1 w2 w3 z1 z2 z3 cs)∧EL N n i w1 w2 w3 z1 z2 z3 cs ρ:=by
 obtain ⟨rfl,rfl,G,I⟩:=h
 exact ⟨(N:Int),ZH G I N 0 (by omega),rfl⟩
def Hm (I:Nat→Int→Int→Value→Value→Value→Value→Value→Value→List Value→Bool) (G:Nat→Int→Int→Value→Value→Value→Value→Value→Value→List Value→Int) (T:List AV) (H:Hp):Option (Bool×Ex×List AV×Hp):=
 match al T 6,al T 7,al T 9,al T 63,al T 64,al T 65,H with
 | .ptr 0 0, .ptr 1 0, .val (.slice none 0 0), .sl false 27 2 0 N, .val (.int .i64 n), .val (.int .i64 i), [.row (.cells [.val w1,.val w2,.val w3]) 27 .live, .row (.cells [.val z1,.val z2,.val z3]) 27 .live, .row (.vals cs) 27 .live]=>bif T.length==108 then some (I N n i w1 w2 w3 z1 z2 z3 cs, .exit 0,qD N n ((G N n i w1 w2 w3 z1 z2 z3 cs)) w1 w2 w3 z1 z2 z3 cs,pL N n ((G N n i w1 w2 w3 z1 z2 z3 cs)) w1 w2 w3 z1 z2 z3 cs) else none
 | _,_,_,_,_,_,_=>none
abbrev JJ:Type:=Nat→Int→Int→Value→Value→Value→Value→Value→Value→List Value→Bool
abbrev Ja:Type:=Nat→Int→Int→Value→Value→Value→Value→Value→Value→List Value→Int
def Ci (G:JJ) (I:Ja) (L:aC):aC:=bp 0 24 qj [6,7,9,63,64,65] (Hm G I) L
def sc (N:Nat) (n i:Int) (w1 w2 w3 z1 z2 z3:Value) (cs:List Value):Int:=Classical.epsilon fun ρ=>av Tryz.prog (lb 24 qj) (qD N n i w1 w2 w3 z1 z2 z3 cs) (pL N n i w1 w2 w3 z1 z2 z3 cs) (.exit 0) (qD N n (ρ) w1 w2 w3 z1 z2 z3 cs) (pL N n (ρ) w1 w2 w3 z1 z2 z3 cs)∧EL N n i w1 w2 w3 z1 z2 z3 cs ρ
theorem acq (N:Nat) (n i:Int) (w1 w2 w3 z1 z2 z3:Value) (cs:List Value) (h:zI N n i w1 w2 w3 z1 z2 z3 cs):av Tryz.prog (lb 24 qj) (qD N n i w1 w2 w3 z1 z2 z3 cs) (pL N n i w1 w2 w3 z1 z2 z3 cs) (.exit 0) (qD N n ((sc N n i w1 w2 w3 z1 z2 z3 cs)) w1 w2 w3 z1 z2 z3 cs) (pL N n ((sc N n i w1 w2 w3 z1 z2 z3 cs)) w1 w2 w3 z1 z2 z3 cs)∧EL N n i w1 w2 w3 z1 z2 z3 cs (sc N n i w1 w2 w3 z1 z2 z3 cs):=Classical.epsilon_spec (aaI N n i w1 w2 w3 z1 z2 z3 cs h)
def tN (N:Nat) (n i:Int) (w1 w2 w3 z1 z2 z3:Value) (cs:List Value):Bool:= @decide (zI N n i w1 w2 w3 z1 z2 z3 cs) (Classical.propDecidable _)
theorem Wh (N:Nat) (n i:Int) (w1 w2 w3 z1 z2 z3:Value) (cs:List Value) (h:zI N n i w1 w2 w3 z1 z2 z3 cs):tN N n i w1 w2 w3 z1 z2 z3 cs=true:= @decide_eq_true _ (Classical.propDecidable _) h
theorem agk (T:List AV) (H:Hp) (e:Ex) (J:List AV) (I:Hp) (h:Hm tN sc T H=some (true,e,J,I)):V.Ends Tryz.prog false 0 0 (.loop (lb 24 qj)) T H e J I:=by
 unfold Hm at h
 split at h
 ·rename_i N n i w1 w2 w3 z1 z2 z3 cs U a1 a6 Z ab aE
  rw [Bool.cond_eq_ite] at h
  split at h
  ·rename_i M
   rw [beq_iff_eq] at M
   simp only [Option.some.injEq,Prod.mk.injEq,Bool.and_eq_true,decide_eq_true_eq] at h
   obtain ⟨k1,rfl,rfl,rfl⟩:=h
   have bx:= @of_decide_eq_true _ (Classical.propDecidable _) k1
   refine Ends.pre (acq N n i w1 w2 w3 z1 z2 z3 cs bx).1.ends (fun α B w D bD a7=>bq M (fun p O y G=> ?_) a7)
   simp only [List.mem_cons,List.not_mem_nil,or_false] at O
   rcases O with rfl | rfl | rfl | rfl | rfl | rfl
   ·rw [U] at G;exact G
   ·rw [a1] at G;exact G
   ·rw [a6] at G;exact G
   ·rw [Z] at G;exact G
   ·rw [ab] at G;exact G
   ·rw [aE] at G;exact G
  ·cases h
 ·cases h
theorem Se {L:aC} (h:aB Tryz.prog L):aB Tryz.prog (Ci tN sc L):=h.bz TD agk
end
end Go.Proofs.YtamcpiicmfielaaGreat.L
namespace Go.Proofs.YtamcpiicmfielaaGreat.L
open Go Go.V Go.RowKit Go.Proofs.YtamcpiicmfielaaGreat.Sp
open Go.Proofs (Tryz.prog)
noncomputable section
def mE:Env:= ⟨aK,au,aq⟩
abbrev ni:List Bool:= [false,true,false,true,true,true,true,true,true,true,true,true,true]
def jv (m k:Nat) (i:Int) (us G:List Value):List AV:=ar 108 [(9, .sl false 27 0 0 m),(12, .sl false 52 1 0 k),(13, .val (.int .i64 i))]
def iW (m k:Nat) (i:Int) (us G:List Value):Hp:= [.row (.vals us) 27 .live, .row (.vals G) 52 .live]
theorem VI:aH Tryz.prog 24 (false :: ni)=some (lb 24 ni):=by kernel_rfl
theorem Po (m k:Nat) (i:Int) (us G:List Value):letI I:=(us.getD (0+(i - 1).toNat*3+1+1) undef);letI J:=(us.getD (0+(i - 1).toNat*3+1) undef);letI M:=(us.getD (0+i.toNat*3+1+1) undef);letI O:=(us.getD (0+(i - 1).toNat*3) undef);letI U:=(us.getD (0+i.toNat*3+1) undef);letI Z:=(us.getD (0+i.toNat*3) undef);
  (aO Tryz.prog mE 24 [9,12,13] (lb 24 ni) (false :: ni) (jv m k i us G) (iW m k i us G)=(bif decide (i < (↑m:Int)) then (bif ai IntKind.i64 (i - 1) then (bif decide (0≤i - 1)&&decide (i - 1 < (↑m:Int)) then (bif decide (0+(i - 1).toNat*3 < us.length) then (bif decide (0+(i - 1).toNat*3+1 < us.length) then (bif decide (0+(i - 1).toNat*3+1+1 < us.length) then (bif decide (0≤i)&&decide (i < (↑m:Int)) then (bif decide (0+i.toNat*3 < us.length) then (bif decide (0+i.toNat*3+1 < us.length) then (bif decide (0+i.toNat*3+1+1 < us.length) then (bif [AV.val O,AV.val J,AV.val I].all bB then (bif [AV.val Z,AV.val U,AV.val M].all bB then (bif [AV.val O,AV.val J,AV.val I,AV.val Z,AV.val U,AV.val M].all bB then (bif decide (k*6≤(ao.vals G).len)&&aU Tryz.prog (k+1) 52&&((dC (intKind Tryz.prog 52) [AV.val O,AV.val J,AV.val I,AV.val Z,AV.val U,AV.val M]).sub 0 6).bk then (bif ai IntKind.i64 (i+1) then some (.normal,ar 108 [(9,(.sl false 27 0 0 m)),(12,(.sl false 52 1 0 (k+1))),(13,(.val (.int .i64 (i+1))))], [(.row (.vals us) 27 .live),(.row (.vals ((List.take (k*6) G) ++ ([O,J,I,Z,U,M]:List Value))) 52 .live)]) else none) else none) else none) else none) else none) else none) else none) else none) else none) else none) else none) else none) else none) else none) else some ((.exit 2),ar 108 [(9,(.sl false 27 0 0 m)),(12,(.sl false 52 1 0 k)),(13,(.val (.int .i64 i)))], [(.row (.vals us) 27 .live),(.row (.vals G) 52 .live)]))):=by kernel_rfl
theorem Qn {m k:Nat} {i:Int} {us G:List Value} {e:Ex} {T:List AV} {H:Hp} (h:aO Tryz.prog mE 24 [9,12,13] (lb 24 ni) (false :: ni) (jv m k i us G) (iW m k i us G)=some (e,T,H)):V.Ends Tryz.prog false 0 0 (lb 24 ni) (jv m k i us G) (iW m k i us G) e T H:=
 bF (aJ _) aN mixed VI h
def bO (S:Nat→Rat):Nat→List Value
 | 0=> []
 | k+1=>bO S k ++ [.bool (af.qn (S k)), .string (af.qs (S k)), .string (af.qd (S k)), .bool (af.qn (S (k+1))), .string (af.qs (S (k+1))), .string (af.qd (S (k+1)))]
theorem qo (S:Nat→Rat):∀ k,(bO S k).length=k*6
 | 0=>rfl
 | k+1=>by unfold bO;rw [List.length_append,qo S k];show _+6=_;omega
structure lO (m:Nat) (us:List Value):Prop where
 lim:m≤1000
 len:m*3≤us.length
 can:∀ i,i < m→us.getD (i*3) undef= .bool (af.qn (qt us i))∧us.getD (i*3+1) undef= .string (af.qs (qt us i))∧us.getD (i*3+1+1) undef= .string (af.qd (qt us i))
theorem OW {m:Nat} (h:m≤2000):aU Tryz.prog m 52=true:=by
 have e:Tryz.prog.bytesOf 52=80:=by kernel_rfl
 unfold aU
 rw [e,decide_eq_true (show m*80≤140737488355328 by omega),decide_eq_true (show m≤9223372036854775807 by omega)];rfl
theorem zk (b:Bool) (s d:BA) (G:Bool) (J I:BA): [AV.val (.bool b), .val (.string s), .val (.string d), .val (.bool G), .val (.string J), .val (.string I)].all bB=true:=rfl
theorem En (b:Bool) (s d:BA) (G:Bool) (J I:BA):((dC (intKind Tryz.prog 52) [AV.val (.bool b), .val (.string s), .val (.string d), .val (.bool G), .val (.string J), .val (.string I)]).sub 0 6).bk=true:=by kernel_rfl
theorem aep {m:Nat} {us:List Value} (h:lO m us) (j:Nat) (aE:j+1 < m):V.Ends Tryz.prog false 0 0 (lb 24 ni) (jv m j ((j+1:Nat):Int) us (bO (qt us) j)) (iW m j ((j+1:Nat):Int) us (bO (qt us) j)) .normal (jv m (j+1) ((j+1+1:Nat):Int) us (bO (qt us) (j+1))) (iW m (j+1) ((j+1+1:Nat):Int) us (bO (qt us) (j+1))):=by
 have a6:=h.lim
 have a1:=h.len
 obtain ⟨I,J,M⟩:=h.can j (by omega)
 obtain ⟨O,U,Z⟩:=h.can (j+1) aE
 have G:=Po m j ((j+1:Nat):Int) us (bO (qt us) j)
 have e1:((j+1:Nat):Int) - 1=(j:Int):=by omega
 have e0:(ao.vals (bO (qt us) j)).len=j*6:=qo _ j
 have ab:List.take (j*6) (bO (qt us) j)=bO (qt us) j:=List.take_of_length_le (Nat.le_of_eq (qo _ j))
 simp only [e1,Int.toNat_natCast,Nat.zero_add,I,J,M,O,U,Z,e0,ab,Nat.le_refl,decide_true,Bool.true_and,ma,zk,En] at G
 rw [dT (show ((j+1:Nat):Int) < (m:Int) by omega),aM (z:=(j:Int)) (by omega),dT (show (0:Int)≤(j:Int) by omega),dT (show (j:Int) < (m:Int) by omega),dT (show j*3 < us.length by omega),dT (show j*3+1 < us.length by omega),dT (show j*3+1+1 < us.length by omega),
  dT (show (0:Int)≤((j+1:Nat):Int) by omega),dT (show (j+1)*3 < us.length by omega),dT (show (j+1)*3+1 < us.length by omega),dT (show (j+1)*3+1+1 < us.length by omega),OW (m:=j+1) (by omega),aM (z:=((j+1:Nat):Int)+1) (by omega)] at G
 exact Qn G
theorem aeo {m:Nat} {us:List Value} (h:lO m us) (k:Nat):∀ j,m=j+1+k→av Tryz.prog (lb 24 ni) (jv m j ((j+1:Nat):Int) us (bO (qt us) j)) (iW m j ((j+1:Nat):Int) us (bO (qt us) j)) (.exit 2) (jv m (m - 1) (m:Int) us (bO (qt us) (m - 1))) (iW m (m - 1) (m:Int) us (bO (qt us) (m - 1))):=by
 induction k with
 | zero=>
  intro j G
  have:m=j+1:=by omega
  subst this
  refine .last (Qn ?_) (by intro h;cases h)
  rw [Po,dF (show ¬ ((j+1:Nat):Int) < ((j+1:Nat):Int) by omega)]
  rfl
 | succ k I=>
  intro j G
  exact .more (aep h j (by omega)) (I (j+1) (by omega))
abbrev gz:List Bool:= [false,true,false,true,true,true,true,true,true,true,true,true,true]
def qG (m:Nat) (i:Int) (us:List Value):List AV:=ar 108 [(9, .sl false 27 0 0 m),(12, .val (.slice none 0 0)),(13, .val (.int .i64 i))]
def pO (m:Nat) (i:Int) (us:List Value):Hp:= [.row (.vals us) 27 .live]
theorem T8:aH Tryz.prog 24 gz=some (.loop (lb 24 gz)):=by kernel_rfl
theorem VJ:aH Tryz.prog 24 (false :: gz)=some (lb 24 gz):=by kernel_rfl
theorem ad8 (m:Nat) (i:Int) (us:List Value):letI G:=(us.getD (0+(i - 1).toNat*3+1+1) undef);letI I:=(us.getD (0+(i - 1).toNat*3+1) undef);letI J:=(us.getD (0+i.toNat*3+1+1) undef);letI M:=(us.getD (0+(i - 1).toNat*3) undef);letI O:=(us.getD (0+i.toNat*3+1) undef);letI U:=(us.getD (0+i.toNat*3) undef);
  (aO Tryz.prog mE 24 [9,12,13] (lb 24 gz) (false :: gz) (qG m i us) (pO m i us)=(bif decide (i < (↑m:Int)) then (bif ai IntKind.i64 (i - 1) then (bif decide (0≤i - 1)&&decide (i - 1 < (↑m:Int)) then (bif decide (0+(i - 1).toNat*3 < us.length) then (bif decide (0+(i - 1).toNat*3+1 < us.length) then (bif decide (0+(i - 1).toNat*3+1+1 < us.length) then (bif decide (0≤i)&&decide (i < (↑m:Int)) then (bif decide (0+i.toNat*3 < us.length) then (bif decide (0+i.toNat*3+1 < us.length) then (bif decide (0+i.toNat*3+1+1 < us.length) then (bif [AV.val M,AV.val I,AV.val G].all bB then (bif [AV.val U,AV.val O,AV.val J].all bB then (bif [AV.val M,AV.val I,AV.val G,AV.val U,AV.val O,AV.val J].all bB then (bif ai IntKind.i64 (i+1) then some (.normal,ar 108 [(9,(.sl false 27 0 0 m)),(12,(.sl false 52 1 0 1)),(13,(.val (.int .i64 (i+1))))], [(.row (.vals us) 27 .live),(.row (.cells [(.val M),(.val I),(.val G),(.val U),(.val O),(.val J)]) 52 .live)]) else none) else none) else none) else none) else none) else none) else none) else none) else none) else none) else none) else none) else none) else some ((.exit 2),ar 108 [(9,(.sl false 27 0 0 m)),(12,(.val (.slice .none 0 0))),(13,(.val (.int .i64 i)))], [(.row (.vals us) 27 .live)]))):=by kernel_rfl
theorem afm {m:Nat} {i:Int} {us:List Value} {e:Ex} {T:List AV} {H:Hp} (h:aO Tryz.prog mE 24 [9,12,13] (lb 24 gz) (false :: gz) (qG m i us) (pO m i us)=some (e,T,H)):V.Ends Tryz.prog false 0 0 (lb 24 gz) (qG m i us) (pO m i us) e T H:=
 bF (aJ _) aN mixed VJ h
def Mu (us:List Value) (x y:Rat):Hp:= [.row (.vals us) 27 .live, .row (.cells [.val (.bool (af.qn x)), .val (.string (af.qs x)), .val (.string (af.qd x)), .val (.bool (af.qn y)), .val (.string (af.qs y)), .val (.string (af.qd y))]) 52 .live]
theorem Zi {m k:Nat} {i:Int} {us:List Value} :bC Tryz.prog (Mu us (qt us 0) (qt us 1)) (iW m k i us (bO (qt us) 1)):=
 bC.cons (fM.refl _) (bC.cons ⟨zY rfl,rfl,rfl⟩ bC.nil)
theorem aeq {m:Nat} {us:List Value} (h:lO m us) (a6:1 < m):av Tryz.prog (lb 24 gz) (qG m 1 us) (pO m 1 us) (.exit 2) (jv m (m - 1) (m:Int) us (bO (qt us) (m - 1))) (iW m (m - 1) (m:Int) us (bO (qt us) (m - 1))):=by
 have a1:=h.lim
 have aE:=h.len
 obtain ⟨I,J,M⟩:=h.can 0 (by omega)
 obtain ⟨O,U,Z⟩:=h.can 1 (by omega)
 have G:=ad8 m 1 us
 have ab:=aeo h (m - 2) 1 (by omega)
 refine .more (afm (T:=jv m 1 ((1+1:Nat):Int) us (bO (qt us) 1)) (H:=Mu us (qt us 0) (qt us 1)) ?_) (ab.gJ Zi)
 simp only [show ((1:Int) - 1)=0 from rfl,Int.toNat_zero,show (1:Int).toNat=1 from rfl,Nat.zero_mul,Nat.one_mul,Nat.zero_add] at G I J M O U Z
 simp only [I,J,M,O,U,Z,ma,zk] at G
 rw [dT (show (1:Int) < (m:Int) by omega),dT (show (0:Int) < (m:Int) by omega),dT (show 0 < us.length by omega),dT (show 1 < us.length by omega),dT (show 1+1 < us.length by omega),
  dT (show 3 < us.length by omega),dT (show 3+1 < us.length by omega),dT (show 3+1+1 < us.length by omega)] at G
 exact G
def vQ (m:Nat) (i:Int) (us:List Value):Prop:=i=1∧1 < m∧lO m us
def E6 (m:Nat) (i:Int) (us:List Value) (ρ:Nat×Int×List Value):Prop:=ρ.1=m - 1∧ρ.2.2=bO (qt us) (m - 1)
theorem aa6 (m:Nat) (i:Int) (us:List Value) (h:vQ m i us):∃ ρ:Nat×Int×List Value,av Tryz.prog (lb 24 gz) (qG m i us) (pO m i us) (.exit 2) (jv m ρ.1 ρ.2.1 us ρ.2.2) (iW m ρ.1 ρ.2.1 us ρ.2.2)∧E6 m i us ρ:=by
 obtain ⟨rfl,G,I⟩:=h
 exact ⟨(m - 1,(m:Int),_),aeq I G,rfl,rfl⟩
def HO (I:Nat→Int→List Value→Bool) (G:Nat→Int→List Value→Nat×Int×List Value) (T:List AV) (H:Hp):Option (Bool×Ex×List AV×Hp):=
 match al T 9,al T 12,al T 13,H with
 | .sl false 27 0 0 m, .val (.slice none 0 0), .val (.int .i64 i), [.row (.vals us) 27 .live]=>bif T.length==108 then some (I m i us, .exit 2,jv m ((G m i us).1) ((G m i us).2.1) us ((G m i us).2.2),iW m ((G m i us).1) ((G m i us).2.1) us ((G m i us).2.2)) else none
 | _,_,_,_=>none
abbrev JU:Type:=Nat→Int→List Value→Bool
abbrev Jm:Type:=Nat→Int→List Value→Nat×Int×List Value
def tq (G:JU) (I:Jm) (L:aC):aC:=bp 0 24 gz [9,12,13] (HO G I) L
def gI (m:Nat) (i:Int) (us:List Value):Nat×Int×List Value:=Classical.epsilon fun ρ=>av Tryz.prog (lb 24 gz) (qG m i us) (pO m i us) (.exit 2) (jv m (ρ.1) (ρ.2.1) us (ρ.2.2)) (iW m (ρ.1) (ρ.2.1) us (ρ.2.2))∧E6 m i us ρ
theorem OC (m:Nat) (i:Int) (us:List Value) (h:vQ m i us):av Tryz.prog (lb 24 gz) (qG m i us) (pO m i us) (.exit 2) (jv m ((gI m i us).1) ((gI m i us).2.1) us ((gI m i us).2.2)) (iW m ((gI m i us).1) ((gI m i us).2.1) us ((gI m i us).2.2))∧E6 m i us (gI m i us):=Classical.epsilon_spec (aa6 m i us h)
def oc (m:Nat) (i:Int) (us:List Value):Bool:= @decide (vQ m i us) (Classical.propDecidable _)
theorem WE (m:Nat) (i:Int) (us:List Value) (h:vQ m i us):oc m i us=true:= @decide_eq_true _ (Classical.propDecidable _) h
theorem agI (T:List AV) (H:Hp) (e:Ex) (J:List AV) (I:Hp) (h:HO oc gI T H=some (true,e,J,I)):V.Ends Tryz.prog false 0 0 (.loop (lb 24 gz)) T H e J I:=by
 unfold HO at h
 split at h
 ·rename_i m i us ab U Z
  rw [Bool.cond_eq_ite] at h
  split at h
  ·rename_i M
   rw [beq_iff_eq] at M
   simp only [Option.some.injEq,Prod.mk.injEq,Bool.and_eq_true,decide_eq_true_eq] at h
   obtain ⟨k1,rfl,rfl,rfl⟩:=h
   have a1:= @of_decide_eq_true _ (Classical.propDecidable _) k1
   refine Ends.pre (OC m i us a1).1.ends (fun α B w D a6 aE=>bq M (fun p O y G=> ?_) aE)
   simp only [List.mem_cons,List.not_mem_nil,or_false] at O
   rcases O with rfl | rfl | rfl
   ·rw [ab] at G;exact G
   ·rw [U] at G;exact G
   ·rw [Z] at G;exact G
  ·cases h
 ·cases h
theorem SF {L:aC} (h:aB Tryz.prog L):aB Tryz.prog (tq oc gI L):=h.bz T8 agI
end
end Go.Proofs.YtamcpiicmfielaaGreat.L
namespace Go.Proofs.YtamcpiicmfielaaGreat.L
open Go Go.V Go.RowKit Go.Proofs.YtamcpiicmfielaaGreat.Sp
open Go.Proofs (Tryz.prog)
noncomputable section
structure Mg where
 so:Nat→List Value→Bool
 sv:Nat→List Value→List Value
 co:Nat→List Value→Bool
 cn:Nat→List Value→Nat
 cv:Nat→List Value→List Value
def GH (G:Mg):List AV→Hp→Option (Bool×AV×Hp):=fun args H=>
 match args with
 | [.sl false t i 0 m, .val (.func (.func c) ⟨[]⟩ ⟨[]⟩)]=>
  (match H[i]? with
  | some (.row (.vals us) I .live)=>bif t==27&&I==27&&c==23 then some (G.so m us, .tup [],H.set i (.row (.vals (G.sv m us)) 27 .live)) else none
  | _=>none)
 | _=>none
def wG (G:Mg):List AV→Hp→Option (Bool×AV×Hp):=fun args H=>
 match args with
 | [.sl false t i 0 m]=>
  (match H[i]? with
  | some (.row (.vals us) I .live)=>bif t==27&&I==27 then some (G.co m us, .sl false 27 i 0 (G.cn m us),H.set i (.row (.vals (G.cv m us)) 27 .live)) else none
  | _=>none)
 | _=>none
def o9:FuncId→Bool:=fun g=> !(g==66)&& !(g==67)
def mG (G:Mg) (L:aC):aC:=pg 66 (GH G) (pg 67 (wG G) L)
def lN (C:Cg) (G:Qg):FuncId→TF:=aw 18 (mz C) (aw 23 (cZ (qK G)) aK)
noncomputable def pR (C:Cg) (J:Qg) (p:Nat) (ts ps:List Value) (r:Nat) (us qs:List Value) (K:Value→Value→Value→Value→Value→Value→Option AV):Option AV:=letI M:=(↑(r+(1:Nat)):Int);letI I:=(M - (1:Int));letI G:=(↑(p+(1:Nat)):Int);letI O:=(ag (3:Nat) (p+(1:Nat)) (ad (3:Nat) ts));letI b4:=((0:Nat)+(p+(1:Nat))+(r+(1:Nat)));letI Z:=(ts.getD ((G - (1:Int)).toNat*(3:Nat)+(1:Nat)) undef);letI ab:=(ts.getD ((G - (1:Int)).toNat*(3:Nat)+(2:Nat)) undef);letI aE:=((0:Int)+G+M - (0:Int));letI a1:=(us.getD (I.toNat*(3:Nat)+(1:Nat)) undef);letI a6:=(us.getD (I.toNat*(3:Nat)+(2:Nat)) undef);letI U:=((0:Nat)+(p+(1:Nat)));letI a7:=(ts.getD ((G - (1:Int)).toNat*(3:Nat)+(0:Nat)) undef);letI bx:=(ag (3:Nat) (r+(1:Nat)) (ad (3:Nat) us));letI bD:=(us.getD (I.toNat*(3:Nat)+(0:Nat)) undef);letI b0:=(us.getD (1:Nat) undef);letI b1:=(us.getD (2:Nat) undef);letI b2:=(ts.getD (1:Nat) undef);letI b3:=(ts.getD (2:Nat) undef);(bif an (3:Nat) (p+(1:Nat)) (ad (3:Nat) ts)&&an (6:Nat) (p+(1:Nat)) (ad (6:Nat) ps)&&C.ko (p+(1:Nat)) O (p+(1:Nat)) (ag (6:Nat) (p+(1:Nat)) (ad (6:Nat) ps)) then (bif !decide (C.ck (p+(1:Nat)) O (p+(1:Nat)) (ag (6:Nat) (p+(1:Nat)) (ad (6:Nat) ps))=(0:Int)) then some (.tup [(.val (.slice .none 0 0)),(.val (.int .i64 1))]) else (bif an (3:Nat) (r+(1:Nat)) (ad (3:Nat) us)&&an (6:Nat) (r+(1:Nat)) (ad (6:Nat) qs)&&C.ko (r+(1:Nat)) bx (r+(1:Nat)) (ag (6:Nat) (r+(1:Nat)) (ad (6:Nat) qs)) then (bif !decide (C.ck (r+(1:Nat)) bx (r+(1:Nat)) (ag (6:Nat) (r+(1:Nat)) (ad (6:Nat) qs))=(0:Int)) then some (.tup [(.val (.slice .none 0 0)),(.val (.int .i64 1))]) else (bif ai IntKind.i64 (G - (1:Int)) then (bif decide ((0:Int)≤G - (1:Int))&&decide (G - (1:Int) < G) then (bif [(fun q=>ad (3:Nat) ts (Int.toNat (0:Int)) ((0:Nat)+q)) (nat_lit 0),(fun q=>ad (3:Nat) ts (Int.toNat (0:Int)) ((0:Nat)+q)) (nat_lit 1),(fun q=>ad (3:Nat) ts (Int.toNat (0:Int)) ((0:Nat)+q)) (nat_lit 2)].all bB then (bif [(fun q=>ad (3:Nat) ts (G - (1:Int)).toNat ((0:Nat)+q)) (nat_lit 0),(fun q=>ad (3:Nat) ts (G - (1:Int)).toNat ((0:Nat)+q)) (nat_lit 1),(fun q=>ad (3:Nat) ts (G - (1:Int)).toNat ((0:Nat)+q)) (nat_lit 2)].all bB then (bif aY (us.getD (0:Nat) undef) b0 b1&&aY (ts.getD (0:Nat) undef) b2 b3&&(J.ok (ah b0) (ah b1)&&J.ok (ah b2) (ah b3)) then (bif decide ((0:Int) < J.cq (J.qv (az (us.getD (0:Nat) undef)) (ah b0) (ah b1)) (J.qv (az (ts.getD (0:Nat) undef)) (ah b2) (ah b3))) then (bif [(fun q=>ad (3:Nat) us (Int.toNat (0:Int)) ((0:Nat)+q)) (nat_lit 0),(fun q=>ad (3:Nat) us (Int.toNat (0:Int)) ((0:Nat)+q)) (nat_lit 1),(fun q=>ad (3:Nat) us (Int.toNat (0:Int)) ((0:Nat)+q)) (nat_lit 2)].all bB then (bif ai IntKind.i64 I then (bif decide ((0:Int)≤M - (1:Int))&&decide (M - (1:Int) < M) then (bif [(fun q=>ad (3:Nat) us I.toNat ((0:Nat)+q)) (nat_lit 0),(fun q=>ad (3:Nat) us I.toNat ((0:Nat)+q)) (nat_lit 1),(fun q=>ad (3:Nat) us I.toNat ((0:Nat)+q)) (nat_lit 2)].all bB then (bif aY bD a1 a6&&aY a7 Z ab&&(J.ok (ah a1) (ah a6)&&J.ok (ah Z) (ah ab)) then (bif decide (J.cq (J.qv (az bD) (ah a1) (ah a6)) (J.qv (az a7) (ah Z) (ah ab)) < (0:Int)) then (bif [(fun q=>ad (3:Nat) us I.toNat ((0:Nat)+q)) (nat_lit 0),(fun q=>ad (3:Nat) us I.toNat ((0:Nat)+q)) (nat_lit 1),(fun q=>ad (3:Nat) us I.toNat ((0:Nat)+q)) (nat_lit 2)].all bB then (bif ai IntKind.i64 ((0:Int)+G) then (bif ai IntKind.i64 ((0:Int)+G+M) then (bif ai IntKind.i64 aE then (bif aU Tryz.prog aE.toNat (27:Nat)&&true&&true then (bif an (3:Nat) (p+(1:Nat)) (ad (3:Nat) ts) then (bif aU Tryz.prog U (27:Nat)&&(ao.vals O).bk then (bif an (3:Nat) (r+(1:Nat)) (ad (3:Nat) us) then (bif decide (U*(3:Nat)≤(ao.vals O).len)&&aU Tryz.prog b4 (27:Nat)&&(ao.vals bx).bk then (K (us.getD (0:Nat) undef) b0 b1 bD a1 a6) else none) else none) else none) else none) else none) else none) else none) else none) else none) else (bif ai IntKind.i64 ((0:Int)+G) then (bif ai IntKind.i64 ((0:Int)+G+M) then (bif ai IntKind.i64 aE then (bif aU Tryz.prog aE.toNat (27:Nat)&&true&&true then (bif an (3:Nat) (p+(1:Nat)) (ad (3:Nat) ts) then (bif aU Tryz.prog U (27:Nat)&&(ao.vals O).bk then (bif an (3:Nat) (r+(1:Nat)) (ad (3:Nat) us) then (bif decide (U*(3:Nat)≤(ao.vals O).len)&&aU Tryz.prog b4 (27:Nat)&&(ao.vals bx).bk then (K (us.getD (0:Nat) undef) b0 b1 a7 Z ab) else none) else none) else none) else none) else none) else none) else none) else none)) else none) else none) else none) else none) else none) else (bif ai IntKind.i64 I then (bif decide ((0:Int)≤M - (1:Int))&&decide (M - (1:Int) < M) then (bif [(fun q=>ad (3:Nat) us I.toNat ((0:Nat)+q)) (nat_lit 0),(fun q=>ad (3:Nat) us I.toNat ((0:Nat)+q)) (nat_lit 1),(fun q=>ad (3:Nat) us I.toNat ((0:Nat)+q)) (nat_lit 2)].all bB then (bif aY bD a1 a6&&aY a7 Z ab&&(J.ok (ah a1) (ah a6)&&J.ok (ah Z) (ah ab)) then (bif decide (J.cq (J.qv (az bD) (ah a1) (ah a6)) (J.qv (az a7) (ah Z) (ah ab)) < (0:Int)) then (bif [(fun q=>ad (3:Nat) us I.toNat ((0:Nat)+q)) (nat_lit 0),(fun q=>ad (3:Nat) us I.toNat ((0:Nat)+q)) (nat_lit 1),(fun q=>ad (3:Nat) us I.toNat ((0:Nat)+q)) (nat_lit 2)].all bB then (bif ai IntKind.i64 ((0:Int)+G) then (bif ai IntKind.i64 ((0:Int)+G+M) then (bif ai IntKind.i64 aE then (bif aU Tryz.prog aE.toNat (27:Nat)&&true&&true then (bif an (3:Nat) (p+(1:Nat)) (ad (3:Nat) ts) then (bif aU Tryz.prog U (27:Nat)&&(ao.vals O).bk then (bif an (3:Nat) (r+(1:Nat)) (ad (3:Nat) us) then (bif decide (U*(3:Nat)≤(ao.vals O).len)&&aU Tryz.prog b4 (27:Nat)&&(ao.vals bx).bk then (K (ts.getD (0:Nat) undef) b2 b3 bD a1 a6) else none) else none) else none) else none) else none) else none) else none) else none) else none) else (bif ai IntKind.i64 ((0:Int)+G) then (bif ai IntKind.i64 ((0:Int)+G+M) then (bif ai IntKind.i64 aE then (bif aU Tryz.prog aE.toNat (27:Nat)&&true&&true then (bif an (3:Nat) (p+(1:Nat)) (ad (3:Nat) ts) then (bif aU Tryz.prog U (27:Nat)&&(ao.vals O).bk then (bif an (3:Nat) (r+(1:Nat)) (ad (3:Nat) us) then (bif decide (U*(3:Nat)≤(ao.vals O).len)&&aU Tryz.prog b4 (27:Nat)&&(ao.vals bx).bk then (K (ts.getD (0:Nat) undef) b2 b3 a7 Z ab) else none) else none) else none) else none) else none) else none) else none) else none)) else none) else none) else none) else none)) else none) else none) else none) else none) else none)) else none)) else none)
theorem ZX (C:Cg) (I:Qg) (G:Mg) (J:BH) (O:Bl) (M:JU) (U:Jm) (p:Nat) (ts ps:List Value) (r:Nat) (us qs:List Value):aF Tryz.prog ⟨lN C I,o9,nS J O (tq M U (mG G aq))⟩ 10 10 24 [aW (p+1) ts (p+1) ps,aW (r+1) us (r+1) qs]=pR C I p ts ps r us qs fun w1 w2 w3 z1 z2 z3=>letI q:=O (0+(p+1)+(r+1)) (0+(p+1)+(r+1):Nat) 0 w1 w2 w3 z1 z2 z3 (List.take ((0+(p+1))*3) (ag 3 (p+1) (ad 3 ts)) ++ ag 3 (r+1) (ad 3 us));letI s:=G.sv q.1 q.2.2;letI x:=U (G.cn q.1 s) 1 (G.cv q.1 s);bif J (0+(p+1)+(r+1)) (0+(p+1)+(r+1):Nat) 0 w1 w2 w3 z1 z2 z3 (List.take ((0+(p+1))*3) (ag 3 (p+1) (ad 3 ts)) ++ ag 3 (r+1) (ad 3 us)) then (bif G.so q.1 q.2.2 then (bif G.co q.1 s then (bif M (G.cn q.1 s) 1 (G.cv q.1 s) then (bif decide (0+x.1*6≤(ao.vals x.2.2).len) then some (AV.tup [.lst false 52 x.1 (cC (.vals x.2.2) [] 0 6), .val (.int .i64 0)]) else none) else none) else none) else none) else none:=by kernel_rfl
theorem ZW (C:Cg) (I:Qg) (G:Mg) (J:BH) (M:Bl) (p:Nat) (ts ps:List Value) (r:Nat) (us qs:List Value):aF Tryz.prog ⟨lN C I,o9,nS J M (mG ⟨G.so,G.sv,G.co,fun _ _=>1,G.cv⟩ aq)⟩ 10 10 24 [aW (p+1) ts (p+1) ps,aW (r+1) us (r+1) qs]=pR C I p ts ps r us qs fun w1 w2 w3 z1 z2 z3=>letI q:=M (0+(p+1)+(r+1)) (0+(p+1)+(r+1):Nat) 0 w1 w2 w3 z1 z2 z3 (List.take ((0+(p+1))*3) (ag 3 (p+1) (ad 3 ts)) ++ ag 3 (r+1) (ad 3 us));letI s:=G.sv q.1 q.2.2;bif J (0+(p+1)+(r+1)) (0+(p+1)+(r+1):Nat) 0 w1 w2 w3 z1 z2 z3 (List.take ((0+(p+1))*3) (ag 3 (p+1) (ad 3 ts)) ++ ag 3 (r+1) (ad 3 us)) then (bif G.so q.1 q.2.2 then (bif G.co q.1 s then some (AV.tup [.val (.slice none 0 0), .val (.int .i64 0)]) else none) else none) else none:=by kernel_rfl
theorem ZV (C:Cg) (G:Qg) (I:JJ) (J:Ja) (p:Nat) (ts ps:List Value) (r:Nat) (us qs:List Value):aF Tryz.prog ⟨lN C G,au,Ci I J aq⟩ 10 10 24 [aW (p+1) ts (p+1) ps,aW (r+1) us (r+1) qs]=pR C G p ts ps r us qs fun w1 w2 w3 z1 z2 z3=>bif I (0+(p+1)+(r+1)) (0+(p+1)+(r+1):Nat) 0 w1 w2 w3 z1 z2 z3 (List.take ((0+(p+1))*3) (ag 3 (p+1) (ad 3 ts)) ++ ag 3 (r+1) (ad 3 us)) then some (AV.tup [.val (.slice none 0 0), .val (.int .i64 0)]) else none:=by kernel_rfl
end
end Go.Proofs.YtamcpiicmfielaaGreat.L
namespace Go.Proofs.YtamcpiicmfielaaGreat.L
open Go Go.V Go.RowKit Go.Proofs.YtamcpiicmfielaaGreat.Sp
open Go.Proofs (Tryz.prog)
noncomputable section
theorem Nl (l:List Rat):(List.range l.length).map (fun j=>l.getD j 0)=l:=by
 apply List.ext_getElem
 ·rw [List.length_map,List.length_range]
 ·intro i I G
  rw [List.getElem_map,List.getElem_range,List.getD_eq_getElem?_getD,List.getElem?_eq_getElem G];rfl
theorem KV (l:List Rat):aL l=cp l.length (fun j=>l.getD j 0):=by
 rw [tD,Nl]
theorem il (l:List Rat) {j:Nat} (G:j < l.length):qt (aL l) j=l.getD j 0:=by
 rw [KV]
 exact acJ _ _ G
theorem n9 (l:List Rat):aL l=cp l.length (qt (aL l)):=by
 rw [← UJ (q:=fun j=>l.getD j 0) (q':=qt (aL l)) (fun i hi=>(il l hi).symm)]
 exact KV l
theorem uM (l:List Rat):(List.range l.length).map (qt (aL l))=l:=by
 have h:(List.range l.length).map (qt (aL l))=(List.range l.length).map (fun j=>l.getD j 0):=List.map_congr_left fun j G=>il l (List.mem_range.1 G)
 rw [h,Nl]
def abZ (m:Nat) (us:List Value):Prop:=us=cp m (qt us)∧0 < m∧m≤1000∧∀ j,j < m→cK (qt us j)≤1000
def cS:Mg where
 so m us:= @decide (abZ m us) (Classical.propDecidable _)
 sv m us:=aL (((List.range m).map (qt us)).mergeSort rM)
 co m us:= @decide (us=cp m (qt us)∧m≤1000) (Classical.propDecidable _)
 cn m us:=(aQ (qt us) m).length
 cv:=gT
def lp:Mg:= ⟨cS.so,cS.sv,fun m us=> @decide (us=cp m (qt us)∧m≤1000∧(aQ (qt us) m).length=1) (Classical.propDecidable _),fun _ _=>1,gT⟩
theorem xj {L:aC} (M:aB Tryz.prog L) {g:FuncId} {f:List AV→Hp→Option (Bool×AV×Hp)} (G:(match aH Tryz.prog g [] with | some c=> !yU c | none=>false)=true) (h:∀ T H v I,f T H=some (true,v,I)→H.length≤I.length∧dg Tryz.prog g T H v I):aB Tryz.prog (pg g f L):=by
 split at G
 ·rename_i c J
  rw [Bool.not_eq_true'] at G
  exact M.pg J G h
 ·cases G
theorem QN (T:List AV) (H:Hp) (v:AV) (G:Hp) (h:GH cS T H=some (true,v,G)):H.length≤G.length∧dg Tryz.prog 66 T H v G:=by
 unfold GH at h
 split at h
 ·rename_i t i m c
  split at h
  ·rename_i us a7 O
   rw [Bool.cond_eq_ite] at h
   split at h
   ·rename_i I
    simp only [Bool.and_eq_true,beq_iff_eq] at I
    obtain ⟨⟨rfl,rfl⟩,rfl⟩:=I
    simp only [Option.some.injEq,Prod.mk.injEq] at h
    obtain ⟨M,rfl,rfl⟩:=h
    obtain ⟨k1,a1,a6,aE⟩:= @of_decide_eq_true _ (Classical.propDecidable _) M
    refine ⟨by rw [List.length_set];exact Nat.le_refl _, ?_⟩
    have e:us=aL ((List.range m).map (qt us)):=by rw [← tD];exact k1
    have Z:((List.range m).map (qt us)).length=m:=by rw [List.length_map,List.length_range]
    have J:=aeP (fl:=false) (l:=(List.range m).map (qt us)) (i:=i) (H:=H) (fun x ab=>by
     obtain ⟨j,U,rfl⟩:=List.mem_map.1 ab
     exact aE j (List.mem_range.1 U)) (by omega) (by omega) (by rw [← e];exact O)
    rw [Z] at J
    exact J
   ·cases h
  ·cases h
 ·cases h
theorem afT (T:List AV) (H:Hp) (v:AV) (G:Hp) (h:wG cS T H=some (true,v,G)):H.length≤G.length∧dg Tryz.prog 67 T H v G:=by
 unfold wG at h
 split at h
 ·rename_i t i m
  split at h
  ·rename_i us U M
   rw [Bool.cond_eq_ite] at h
   split at h
   ·rename_i I
    simp only [Bool.and_eq_true,beq_iff_eq] at I
    obtain ⟨rfl,rfl⟩:=I
    simp only [Option.some.injEq,Prod.mk.injEq] at h
    obtain ⟨J,rfl,rfl⟩:=h
    obtain ⟨k1,O⟩:= @of_decide_eq_true _ (Classical.propDecidable _) J
    exact ⟨by rw [List.length_set];exact Nat.le_refl _,K8 (by omega) k1 M⟩
   ·cases h
  ·cases h
 ·cases h
theorem afU (T:List AV) (H:Hp) (v:AV) (G:Hp) (h:wG lp T H=some (true,v,G)):H.length≤G.length∧dg Tryz.prog 67 T H v G:=by
 unfold wG at h
 split at h
 ·rename_i t i m
  split at h
  ·rename_i us ab O
   rw [Bool.cond_eq_ite] at h
   split at h
   ·rename_i I
    simp only [Bool.and_eq_true,beq_iff_eq] at I
    obtain ⟨rfl,rfl⟩:=I
    simp only [Option.some.injEq,Prod.mk.injEq] at h
    obtain ⟨M,rfl,rfl⟩:=h
    obtain ⟨k1,Z,U⟩:= @of_decide_eq_true _ (Classical.propDecidable _) M
    have J:=K8 (by omega) k1 O
    rw [U] at J
    exact ⟨by rw [List.length_set];exact Nat.le_refl _,J⟩
   ·cases h
  ·cases h
 ·cases h
theorem SP {L:aC} (G:aB Tryz.prog L):aB Tryz.prog (mG cS L):=xj (xj G (by kernel_rfl) afT) (by kernel_rfl) QN
theorem SR {L:aC} (G:aB Tryz.prog L):aB Tryz.prog (mG lp L):=xj (xj G (by kernel_rfl) afU) (by kernel_rfl) QN
def bL (S:Nat→Rat) (lo hi:Rat) (N:Nat):List Rat:=(bn S lo hi N).mergeSort rM
def cI (S:Nat→Rat) (lo hi:Rat) (N:Nat):List Rat:=aQ (qt (aL (bL S lo hi N))) (bL S lo hi N).length
theorem WT {m:Nat} {us:List Value} (a1:m≤1000):lO (aQ (qt us) m).length (gT m us)∧∀ j,j < (aQ (qt us) m).length→qt (gT m us) j=(aQ (qt us) m).getD j 0:=by
 have aE:=Li (S:=qt us) m
 have ab:=mM (aQ (qt us) m)
 have G:∀ i c,i < (aQ (qt us) m).length→c < 3→(gT m us).getD (i*3+c) undef=(aL (aQ (qt us) m)).getD (i*3+c) undef:=fun i c hi Z=>by
  unfold gT
  rw [List.getD_eq_getElem?_getD,List.getD_eq_getElem?_getD,List.getElem?_append_left (by omega)]
 have U:∀ j,j < (aQ (qt us) m).length→qt (gT m us) j=(aQ (qt us) m).getD j 0:=fun j I=>by
  rw [← il _ I]
  show af.qv (az ((gT m us).getD (j*3+0) undef)) (ah ((gT m us).getD (j*3+1) undef)) (ah ((gT m us).getD (j*3+2) undef))=_
  rw [G j 0 I (by omega),G j 1 I (by omega),G j 2 I (by omega)];rfl
 refine ⟨⟨by omega,by unfold gT;rw [List.length_append];omega,fun i hi=> ?_⟩,U⟩
 obtain ⟨J,M,O⟩:=jH (n9 (aQ (qt us) m)) i hi
 rw [il _ hi,← U i hi] at J M O
 exact ⟨(G i 0 hi (by omega)).trans J,(G i 1 hi (by omega)).trans M,(G i 2 hi (by omega)).trans O⟩
theorem Fp {S G:Nat→Rat} :∀ k,(∀ i,i≤k→S i=G i)→bO S k=bO G k
 | 0,_=>rfl
 | k+1,h=>by
  unfold bO
  rw [Fp k (fun i hi=>h i (by omega)),h k (by omega),h (k+1) (by omega)]
def ig (C:List Rat):List Value:=bO (fun j=>C.getD j 0) (C.length - 1)
theorem mR (S:Nat→Rat) (lo hi x:Rat):∀ j:Nat,x ∈ bn S lo hi j↔∃ i,i < j∧x=S i∧lo≤x∧x≤hi
 | 0=>Iff.intro (fun h=>by cases h) (fun h=>by obtain ⟨i,h,_⟩:=h;omega)
 | j+1=>by
  have I:=mR S lo hi x j
  unfold bn
  constructor
  ·intro h
   split at h
   ·rename_i U
    rcases List.mem_append.1 h with h | h
    ·obtain ⟨i,J,G⟩:=I.1 h
     exact ⟨i,by omega,G⟩
    ·obtain rfl:=List.mem_singleton.1 h
     exact ⟨j,by omega,rfl,U.1,U.2⟩
   ·obtain ⟨i,J,G⟩:=I.1 h
    exact ⟨i,by omega,G⟩
  ·rintro ⟨i,J,rfl,M,O⟩
   by_cases Z:i=j
   ·subst Z
    rw [if_pos ⟨M,O⟩]
    exact List.mem_append_right _ (List.mem_singleton.2 rfl)
   ·have:=I.2 ⟨i,by omega,rfl,M,O⟩
    split
    ·exact List.mem_append_left _ this
    ·exact this
theorem MT {N:Nat} {cs:List Value} {w1 w2 w3 z1 z2 z3:Value} (h:cL N cs w1 w2 w3 z1 z2 z3) (J:bn (qt cs) (rv w1 w2 w3) (rv z1 z2 z3) N≠ []):
  jI N N 0 w1 w2 w3 z1 z2 z3 cs=true∧cS.so (cT N N 0 w1 w2 w3 z1 z2 z3 cs).1 (cT N N 0 w1 w2 w3 z1 z2 z3 cs).2.2=true∧
  cS.sv (cT N N 0 w1 w2 w3 z1 z2 z3 cs).1 (cT N N 0 w1 w2 w3 z1 z2 z3 cs).2.2=aL (bL (qt cs) (rv w1 w2 w3) (rv z1 z2 z3) N)∧
  (cT N N 0 w1 w2 w3 z1 z2 z3 cs).1=(bL (qt cs) (rv w1 w2 w3) (rv z1 z2 z3) N).length∧(bL (qt cs) (rv w1 w2 w3) (rv z1 z2 z3) N).length≤1000:=by
 have M:vp N N 0 w1 w2 w3 z1 z2 z3 cs:= ⟨rfl,rfl,h,J⟩
 obtain ⟨I,O⟩:=(Oe _ _ _ _ _ _ _ _ _ _ M).2
 have aE:=Du (qt cs) (rv w1 w2 w3) (rv z1 z2 z3) N
 have a1:=h.lim
 have e1:(bL (qt cs) (rv w1 w2 w3) (rv z1 z2 z3) N).length=(bn (qt cs) (rv w1 w2 w3) (rv z1 z2 z3) N).length:=List.length_mergeSort _
 refine ⟨Wg _ _ _ _ _ _ _ _ _ _ M, ?_, ?_,by rw [I,e1],by omega⟩
 ·rw [I,O]
  refine @decide_eq_true _ (Classical.propDecidable _) ⟨n9 _,Nat.pos_of_ne_zero fun U=>J (List.length_eq_zero_iff.1 U),by omega,fun j G=> ?_⟩
  rw [il _ G,List.getD_eq_getElem?_getD,List.getElem?_eq_getElem G]
  obtain ⟨i,Z,ab,_⟩:=(mR _ _ _ _ N).1 (List.getElem_mem G)
  show cK (bn (qt cs) (rv w1 w2 w3) (rv z1 z2 z3) N)[j]≤_
  rw [ab]
  exact h.sz i Z
 ·rw [I,O]
  show aL (((List.range _).map (qt (aL _))).mergeSort rM)=_
  rw [uM]
  rfl
theorem ZP {N:Nat} {S:Nat→Rat} {lo hi:Rat} (G:(bL S lo hi N).length≤1000):cS.co (bL S lo hi N).length (aL (bL S lo hi N))=true:=
 @decide_eq_true _ (Classical.propDecidable _) ⟨n9 _,G⟩
theorem ZQ {N:Nat} {S:Nat→Rat} {lo hi:Rat} (I:(bL S lo hi N).length≤1000) (G:(cI S lo hi N).length=1):lp.co (bL S lo hi N).length (aL (bL S lo hi N))=true:=
 @decide_eq_true _ (Classical.propDecidable _) ⟨n9 _,I,G⟩
theorem ZR {N:Nat} {S:Nat→Rat} {lo hi:Rat} (U:(bL S lo hi N).length≤1000) (G:1 < (cI S lo hi N).length):
  oc (cS.cn (bL S lo hi N).length (aL (bL S lo hi N))) 1 (cS.cv (bL S lo hi N).length (aL (bL S lo hi N)))=true∧
  (gI (cS.cn (bL S lo hi N).length (aL (bL S lo hi N))) 1 (cS.cv (bL S lo hi N).length (aL (bL S lo hi N)))).1=(cI S lo hi N).length - 1∧
  (gI (cS.cn (bL S lo hi N).length (aL (bL S lo hi N))) 1 (cS.cv (bL S lo hi N).length (aL (bL S lo hi N)))).2.2=ig (cI S lo hi N):=by
 obtain ⟨J,M⟩:=WT (us:=aL (bL S lo hi N)) U
 have I:vQ (cS.cn (bL S lo hi N).length (aL (bL S lo hi N))) 1 (cS.cv (bL S lo hi N).length (aL (bL S lo hi N))):= ⟨rfl,G,J⟩
 obtain ⟨Z,ab⟩:=(OC _ _ _ I).2
 refine ⟨WE _ _ _ I,Z,ab.trans ?_⟩
 have aE:1 < (aQ (qt (aL (bL S lo hi N))) (bL S lo hi N).length).length:=G
 exact Fp _ fun i O=>M i (by show i < (aQ (qt (aL (bL S lo hi N))) (bL S lo hi N).length).length;have:i≤(aQ (qt (aL (bL S lo hi N))) (bL S lo hi N).length).length - 1:=O;omega)
end
end Go.Proofs.YtamcpiicmfielaaGreat.L
namespace Go.Proofs.YtamcpiicmfielaaGreat.L
open Go Go.V Go.RowKit Go.Proofs.YtamcpiicmfielaaGreat.Sp
open Go.Proofs (Tryz.prog)
noncomputable section
theorem Q1 {n:Nat} {ts ps:List Value} (a7:ts.length=n*3) (a6:bj n ts n ps=true) (aE:aS n ts n ps=0):ts=aL ((List.range n).map (qt ts)):=by
 have bx:=(pQ a6).1
 have a1:=(db aE).2.2.2
 rw [← tD]
 apply List.ext_getElem
 ·rw [iE,a7]
 ·intro i Z ab
  have I:i / 3 < n:=by omega
  obtain ⟨J,M,O⟩:=UC (df (bx _ I)).1 (rj (a1 _ I)).1
  have e1:ts[i]=ts.getD (i / 3*3+i % 3) undef:=by rw [Nat.div_add_mod',List.getD_eq_getElem?_getD,List.getElem?_eq_getElem Z];rfl
  have U:(cp n (qt ts))[i]=(cp n (qt ts)).getD (i / 3*3+i % 3) undef:=by rw [Nat.div_add_mod',List.getD_eq_getElem?_getD,List.getElem?_eq_getElem ab];rfl
  rw [e1,U,nZ n (qt ts) I (Nat.mod_lt i (by decide))]
  have G:i % 3=0∨i % 3=1∨i % 3=2:=by omega
  rcases G with G | G | G <;> rw [G]
  ·exact J
  ·exact M
  ·exact O
def pz (n:Nat) (ts:List Value) (m:Nat) (us:List Value):List Rat:=(List.range n).map (qt ts) ++ (List.range m).map (qt us)
theorem CO (n:Nat) (ts:List Value) (m:Nat) (us:List Value):(pz n ts m us).length=n+m:=by
 unfold pz
 rw [List.length_append,List.length_map,List.length_map,List.length_range,List.length_range]
theorem KT {n:Nat} {ts ps:List Value} {m:Nat} {us qs:List Value} (l1:ts.length=n*3) (J:bj n ts n ps=true) (G:aS n ts n ps=0) (O:us.length=m*3) (M:bj m us m qs=true) (I:aS m us m qs=0):ts ++ us=aL (pz n ts m us):=by
 unfold pz
 rw [ri,← Q1 l1 J G,← Q1 O M I]
theorem UH {n:Nat} {ts ps:List Value} {m:Nat} {us qs:List Value} (l1:ts.length=n*3) (J:bj n ts n ps=true) (G:aS n ts n ps=0) (O:us.length=m*3) (M:bj m us m qs=true) (I:aS m us m qs=0):ts ++ us=cp (n+m) (qt (ts ++ us)):=by
 have h:=n9 (pz n ts m us)
 rw [← KT l1 J G O M I,CO] at h
 exact h
theorem Fe {n:Nat} {ts ps:List Value} {m:Nat} {us qs:List Value} (l1:ts.length=n*3) (M:bj n ts n ps=true) (I:aS n ts n ps=0) (U:us.length=m*3) (O:bj m us m qs=true) (J:aS m us m qs=0):
  (∀ j,j < n→qt (ts ++ us) j=qt ts j)∧∀ j,j < m→qt (ts ++ us) (n+j)=qt us j:=by
 rw [KT l1 M I U O J]
 constructor
 ·intro j G
  rw [il _ (by rw [CO];omega)]
  unfold pz
  rw [List.getD_eq_getElem?_getD,List.getElem?_append_left (by rw [List.length_map,List.length_range];exact G),List.getElem?_map,List.getElem?_range G];rfl
 ·intro j G
  rw [il _ (by rw [CO];omega)]
  unfold pz
  rw [List.getD_eq_getElem?_getD,List.getElem?_append_right (by rw [List.length_map,List.length_range];omega),List.length_map,List.length_range,Nat.add_sub_cancel_left,List.getElem?_map,List.getElem?_range G];rfl
def bN (ts us:List Value):Rat:=if qt ts 0 < qt us 0 then qt us 0 else qt ts 0
def bK (n:Nat) (ts:List Value) (m:Nat) (us:List Value):Rat:=if qt us (m - 1) < qt ts (n - 1) then qt us (m - 1) else qt ts (n - 1)
def bM (n:Nat) (ts:List Value) (m:Nat) (us:List Value):List Rat:=cI (qt (ts ++ us)) (bN ts us) (bK n ts m us) (n+m)
def sX (C:List Rat):AV:= .tup [.lst false 52 (C.length - 1) (ad 6 (ig C)), .val (.int .i64 0)]
theorem DZ (C:List Rat):(ig C).length=(C.length - 1)*6:=qo _ _
theorem Z1 {N:Nat} {cs:List Value} {w1 w2 w3 z1 z2 z3:Value} {lo hi:Rat} (h:cL N cs w1 w2 w3 z1 z2 z3) (e1:rv w1 w2 w3=lo) (ab:rv z1 z2 z3=hi) (a1:bn (qt cs) lo hi N≠ []) (aE:1 < (cI (qt cs) lo hi N).length):letI q:=cT N N 0 w1 w2 w3 z1 z2 z3 cs;letI s:=cS.sv q.1 q.2.2;letI r:=gI (cS.cn q.1 s) 1 (cS.cv q.1 s);
  (bif jI N N 0 w1 w2 w3 z1 z2 z3 cs then (bif cS.so q.1 q.2.2 then (bif cS.co q.1 s then (bif oc (cS.cn q.1 s) 1 (cS.cv q.1 s) then (bif decide (r.1*6≤(ao.vals r.2.2).len) then some (AV.tup [.lst false 52 r.1 (cC (.vals r.2.2) [] 0 6), .val (.int .i64 0)]) else none) else none) else none) else none) else none)=some (sX (cI (qt cs) lo hi N)):=by
 subst e1 ab
 obtain ⟨I,J,M,O,G⟩:=MT h a1
 obtain ⟨d1,U,Z⟩:=ZR G aE
 rw [I,J,M,O,ZP G,d1,U,Z,oe,dT (show ((cI (qt cs) (rv w1 w2 w3) (rv z1 z2 z3) N).length - 1)*6≤(ao.vals (ig (cI (qt cs) (rv w1 w2 w3) (rv z1 z2 z3) N))).len from by show _≤(ig _).length;rw [DZ];omega)]
 rfl
theorem Z0 {N:Nat} {cs:List Value} {w1 w2 w3 z1 z2 z3:Value} {lo hi:Rat} (h:cL N cs w1 w2 w3 z1 z2 z3) (e1:rv w1 w2 w3=lo) (U:rv z1 z2 z3=hi) (ab:bn (qt cs) lo hi N≠ []) (Z:(cI (qt cs) lo hi N).length=1):letI q:=cT N N 0 w1 w2 w3 z1 z2 z3 cs;letI s:=lp.sv q.1 q.2.2;
  (bif jI N N 0 w1 w2 w3 z1 z2 z3 cs then (bif lp.so q.1 q.2.2 then (bif lp.co q.1 s then some (AV.tup [.val (.slice none 0 0), .val (.int .i64 0)]) else none) else none) else none)=some (AV.tup [.val (.slice none 0 0), .val (.int .i64 0)]):=by
 subst e1 U
 obtain ⟨J,G,I,M,O⟩:=MT h ab
 have G:lp.so (cT N N 0 w1 w2 w3 z1 z2 z3 cs).1 (cT N N 0 w1 w2 w3 z1 z2 z3 cs).2.2=true:=G
 have I:lp.sv (cT N N 0 w1 w2 w3 z1 z2 z3 cs).1 (cT N N 0 w1 w2 w3 z1 z2 z3 cs).2.2=_:=I
 rw [J,G,I,M,ZQ O Z]
 rfl
theorem ZZ {N:Nat} {cs:List Value} {w1 w2 w3 z1 z2 z3:Value} {lo hi:Rat} (h:cL N cs w1 w2 w3 z1 z2 z3) (e1:rv w1 w2 w3=lo) (G:rv z1 z2 z3=hi) (I:bn (qt cs) lo hi N= []):
  (bif tN N N 0 w1 w2 w3 z1 z2 z3 cs then some (AV.tup [.val (.slice none 0 0), .val (.int .i64 0)]) else none)=some (AV.tup [.val (.slice none 0 0), .val (.int .i64 0)]):=by
 subst e1 G
 rw [Wh _ _ _ _ _ _ _ _ _ _ ⟨rfl,rfl,h,I⟩]
 rfl
theorem oI {vs:List Value} {j:Nat} (h:dB vs j=true): [(fun q=>ad 3 vs j (0+q)) (nat_lit 0),(fun q=>ad 3 vs j (0+q)) (nat_lit 1),(fun q=>ad 3 vs j (0+q)) (nat_lit 2)].all bB=true:=Ek h
end
end Go.Proofs.YtamcpiicmfielaaGreat.L
namespace Go.Proofs.YtamcpiicmfielaaGreat.L
open Go Go.V Go.RowKit Go.Proofs.YtamcpiicmfielaaGreat.Sp
open Go.Proofs (Tryz.prog)
noncomputable section
theorem AX:bf Tryz.prog (lN aX af):=((aJ _).add pC.cZ).add C6
theorem MX {n:Nat} {ts ps:List Value} {m:Nat} {us qs:List Value} (l1:ts.length=n*3) (G:bj n ts n ps=true) (J:aS n ts n ps=0) (U:us.length=m*3) (I:bj m us m qs=true) (M:aS m us m qs=0) (bx:n≤10) (a7:m≤10) {w1 w2 w3 z1 z2 z3:Value} (Z:aY w1 w2 w3=true) (ab:c9 (ah w2) (ah w3)=true) (aE:aY z1 z2 z3=true) (a1:c9 (ah z2) (ah z3)=true):cL (n+m) (ts ++ us) w1 w2 w3 z1 z2 z3:=by
 obtain ⟨q1,q2⟩:=Fe l1 G J U I M
 refine ⟨by omega,UH l1 G J U I M,fun j a6=> ?_,Z,ab,aE,a1⟩
 by_cases O:j < n
 ·rw [q1 j O]
  exact NH ((pQ G).1 j O)
 ·have:=q2 (j - n) (by omega)
  rw [show n+(j - n)=j by omega] at this
  rw [this]
  exact NH ((pQ I).1 _ (by omega))
theorem DV (p r:Nat) (ts ps us qs:List Value) (l1:ts.length=(p+1)*3) (l2:ps.length=(p+1)*6) (b1:us.length=(r+1)*3) (c7:qs.length=(r+1)*6)
  (bD:bj (p+1) ts (p+1) ps=true) (ca:aS (p+1) ts (p+1) ps=0) (b0:bj (r+1) us (r+1) qs=true) (cb:aS (r+1) us (r+1) qs=0) (c5:p+1≤10) (c6:r+1≤10) (K:Value→Value→Value→Value→Value→Value→Option AV):
  ∃ w1 w2 w3 z1 z2 z3,cL (p+1+(r+1)) (ts ++ us) w1 w2 w3 z1 z2 z3∧rv w1 w2 w3=bN ts us∧rv z1 z2 z3=bK (p+1) ts (r+1) us∧pR aX af p ts ps r us qs K=K w1 w2 w3 z1 z2 z3:=by
 have a7:=lC bD ca
 have bx:=lC b0 cb
 have L:=fun {w1 w2 w3 z1 z2 z3:Value} J G c3 c4=>MX (w1:=w1) (w2:=w2) (w3:=w3) (z1:=z1) (z2:=z2) (z3:=z3) l1 bD ca b1 b0 cb c5 c6 J G c3 c4
 have e1:((p+1:Nat):Int) - 1=(p:Int):=by omega
 have b6:((r+1:Nat):Int) - 1=(r:Int):=by omega
 have b7:(((p+1:Nat):Int) - 1).toNat=p:=by omega
 have ch:(((r+1:Nat):Int) - 1).toNat=r:=by omega
 obtain ⟨M,Z⟩:=df (a7.ts.ok 0 (by omega))
 obtain ⟨ab,a1⟩:=df (a7.ts.ok p (by omega))
 obtain ⟨O,aE⟩:=df (bx.ts.ok 0 (by omega))
 obtain ⟨d1,a6⟩:=df (bx.ts.ok r (by omega))
 simp only [Nat.zero_mul,Nat.zero_add] at M Z O aE
 have T:pR aX af p ts ps r us qs K=pR aX af p ts ps r us qs K:=rfl
 conv at T=>rhs;unfold pR
 rw [oI (vs:=ts) (j:=Int.toNat 0) M,oI (vs:=us) (j:=Int.toNat 0) O,oI (vs:=ts) (j:=(((p+1:Nat):Int) - 1).toNat) (by rw [b7];exact ab),oI (vs:=us) (j:=(((r+1:Nat):Int) - 1).toNat) (by rw [ch];exact d1)] at T
 have k1:((p+1:Nat):Int)+((r+1:Nat):Int)=((p+1+(r+1):Nat):Int):=by omega
 have dx:List.take ((p+1)*3) ts=ts:=List.take_of_length_le (by omega)
 simp only [e1,b6,Int.toNat_natCast,Nat.zero_add,Int.zero_add,Int.sub_zero,aZ l1,aZ l2,aZ b1,aZ c7,bV,k1,dx] at T
 rw [show aX.ko (p+1) ts (p+1) ps=true from bD,show aX.ko (r+1) us (r+1) qs=true from b0,dT (show aX.ck (p+1) ts (p+1) ps=0 from ca),dT (show aX.ck (r+1) us (r+1) qs=0 from cb),
  aM (z:=(p:Int)) (by omega),aM (z:=(r:Int)) (by omega),dT (show (0:Int)≤(p:Int) by omega),dT (show (p:Int) < ((p+1:Nat):Int) by omega),dT (show (0:Int)≤(r:Int) by omega),dT (show (r:Int) < ((r+1:Nat):Int) by omega),
  M,fD Z,ab,fD a1,O,fD aE,d1,fD a6,aM (z:=((p+1:Nat):Int)) (by omega),aM (z:=((p+1+(r+1):Nat):Int)) (by omega),fL (m:=p+1+(r+1)) (by omega),fL (m:=p+1) (by omega),nU l1 a7.ts.ok,nU b1 bx.ts.ok,dT (show (p+1)*3≤(ao.vals ts).len from by show _≤ts.length;omega)] at T
 have ct:af.qv (az (us.getD 0 undef)) (ah (us.getD 1 undef)) (ah (us.getD 2 undef))=qt us 0:=rfl
 have c0:af.qv (az (ts.getD 0 undef)) (ah (ts.getD 1 undef)) (ah (ts.getD 2 undef))=qt ts 0:=rfl
 have b2:rv (us.getD 0 undef) (us.getD 1 undef) (us.getD 2 undef)=qt us 0:=rfl
 have b3:rv (ts.getD 0 undef) (ts.getD 1 undef) (ts.getD 2 undef)=qt ts 0:=rfl
 have b4:rv (us.getD (r*3+0) undef) (us.getD (r*3+1) undef) (us.getD (r*3+2) undef)=qt us r:=rfl
 have b5:rv (ts.getD (p*3+0) undef) (ts.getD (p*3+1) undef) (ts.getD (p*3+2) undef)=qt ts p:=rfl
 rw [ct,c0,ss us r,ss ts p] at T
 by_cases J:qt ts 0 < qt us 0
 ·have U:bN ts us=qt us 0:=if_pos J
  rw [dT (pB.2 J)] at T
  by_cases G:qt us r < qt ts p
  ·have I:bK (p+1) ts (r+1) us=qt us r:=if_pos G
   rw [dT (iF.2 G)] at T
   exact ⟨_,_,_,_,_,_,(L O aE d1 a6),(b2.trans U.symm),(b4.trans I.symm),T⟩
  ·have I:bK (p+1) ts (r+1) us=qt ts p:=if_neg G
   rw [dF (fun h=>G (iF.1 h))] at T
   exact ⟨_,_,_,_,_,_,(L O aE ab a1),(b2.trans U.symm),(b5.trans I.symm),T⟩
 ·have U:bN ts us=qt ts 0:=if_neg J
  rw [dF (fun h=>J (pB.1 h))] at T
  by_cases G:qt us r < qt ts p
  ·have I:bK (p+1) ts (r+1) us=qt us r:=if_pos G
   rw [dT (iF.2 G)] at T
   exact ⟨_,_,_,_,_,_,(L M Z d1 a6),(b3.trans U.symm),(b4.trans I.symm),T⟩
  ·have I:bK (p+1) ts (r+1) us=qt ts p:=if_neg G
   rw [dF (fun h=>G (iF.1 h))] at T
   exact ⟨_,_,_,_,_,_,(L M Z ab a1),(b3.trans U.symm),(b5.trans I.symm),T⟩
theorem Z6 (p r:Nat) (ts ps us qs:List Value) (l1:ts.length=(p+1)*3) (l2:ps.length=(p+1)*6) (G:us.length=(r+1)*3) (a7:qs.length=(r+1)*6)
  (a1:bj (p+1) ts (p+1) ps=true) (ca:aS (p+1) ts (p+1) ps=0) (a6:bj (r+1) us (r+1) qs=true) (cb:aS (r+1) us (r+1) qs=0) (ab:p+1≤10) (aE:r+1≤10) (Z:bn (qt (ts ++ us)) (bN ts us) (bK (p+1) ts (r+1) us) (p+1+(r+1))≠ []) (U:1 < (bM (p+1) ts (r+1) us).length):
  aF Tryz.prog ⟨lN aX af,o9,nS jI cT (tq oc gI (mG cS aq))⟩ 10 10 24 [aW (p+1) ts (p+1) ps,aW (r+1) us (r+1) qs]=some (sX (bM (p+1) ts (r+1) us)):=by
 have bx:List.take ((p+1)*3) ts=ts:=List.take_of_length_le (by omega)
 rw [ZX]
 simp only [Nat.zero_add,aZ l1,aZ G,bx]
 obtain ⟨w1,w2,w3,z1,z2,z3,I,J,M,O⟩:=DV p r ts ps us qs l1 l2 G a7 a1 ca a6 cb ab aE _
 rw [O]
 exact Z1 I J M Z U
theorem Z5 (p r:Nat) (ts ps us qs:List Value) (l1:ts.length=(p+1)*3) (l2:ps.length=(p+1)*6) (G:us.length=(r+1)*3) (a7:qs.length=(r+1)*6)
  (a1:bj (p+1) ts (p+1) ps=true) (ca:aS (p+1) ts (p+1) ps=0) (a6:bj (r+1) us (r+1) qs=true) (cb:aS (r+1) us (r+1) qs=0) (ab:p+1≤10) (aE:r+1≤10) (Z:bn (qt (ts ++ us)) (bN ts us) (bK (p+1) ts (r+1) us) (p+1+(r+1))≠ []) (U:(bM (p+1) ts (r+1) us).length=1):
  aF Tryz.prog ⟨lN aX af,o9,nS jI cT (mG lp aq)⟩ 10 10 24 [aW (p+1) ts (p+1) ps,aW (r+1) us (r+1) qs]=some (AV.tup [.val (.slice none 0 0), .val (.int .i64 0)]):=by
 have bx:List.take ((p+1)*3) ts=ts:=List.take_of_length_le (by omega)
 rw [show aF Tryz.prog ⟨lN aX af,o9,nS jI cT (mG lp aq)⟩ 10 10 24 _=_ from ZW aX af lp jI cT p ts ps r us qs]
 simp only [Nat.zero_add,aZ l1,aZ G,bx]
 obtain ⟨w1,w2,w3,z1,z2,z3,I,J,M,O⟩:=DV p r ts ps us qs l1 l2 G a7 a1 ca a6 cb ab aE _
 rw [O]
 exact Z0 I J M Z U
theorem Z4 (p r:Nat) (ts ps us qs:List Value) (l1:ts.length=(p+1)*3) (l2:ps.length=(p+1)*6) (G:us.length=(r+1)*3) (a6:qs.length=(r+1)*6)
  (aE:bj (p+1) ts (p+1) ps=true) (ca:aS (p+1) ts (p+1) ps=0) (a1:bj (r+1) us (r+1) qs=true) (cb:aS (r+1) us (r+1) qs=0) (Z:p+1≤10) (ab:r+1≤10) (U:bn (qt (ts ++ us)) (bN ts us) (bK (p+1) ts (r+1) us) (p+1+(r+1))= []):
  aF Tryz.prog ⟨lN aX af,au,Ci tN sc aq⟩ 10 10 24 [aW (p+1) ts (p+1) ps,aW (r+1) us (r+1) qs]=some (AV.tup [.val (.slice none 0 0), .val (.int .i64 0)]):=by
 have a7:List.take ((p+1)*3) ts=ts:=List.take_of_length_le (by omega)
 rw [ZV]
 simp only [Nat.zero_add,aZ l1,aZ G,a7]
 obtain ⟨w1,w2,w3,z1,z2,z3,I,J,M,O⟩:=DV p r ts ps us qs l1 l2 G a6 aE ca a1 cb Z ab _
 rw [O]
 exact ZZ I J M U
end
end Go.Proofs.YtamcpiicmfielaaGreat.L
namespace Go.Proofs.YtamcpiicmfielaaGreat.L
open Go Go.V Go.RowKit Go.Proofs.YtamcpiicmfielaaGreat.Sp
open Go.Proofs (Tryz.prog)
noncomputable section
theorem Lj {S:Nat→Rat} {m:Nat} (O:∀ i,i+1 < m→S i≤S (i+1)):∀ p:Nat,p≤m→(aQ S p).Pairwise (· < ·)∧∀ x,x ∈ aQ S p↔∃ i,i < p∧x=S i
 | 0,_=> ⟨List.Pairwise.nil,fun x=> ⟨fun h=>(by cases h),fun h=>(by obtain ⟨i,h,_⟩:=h;omega)⟩⟩
 | p+1,b0=>by
  obtain ⟨U,I⟩:=Lj O p (by omega)
  have aE:∀ i,i < p→S i≤S (p - 1):=fun i hi=>by
   have ab:∀ d,i+d < p→S i≤S (i+d):=fun d=>by
    induction d with
    | zero=>intro _;exact Rat.le_refl
    | succ d a6=>intro bD;exact Rat.le_trans (a6 (by omega)) (O (i+d) (by omega))
   have:=ab (p - 1 - i) (by omega)
   rwa [show i+(p - 1 - i)=p - 1 by omega] at this
  unfold aQ
  split
  ·rename_i J
   refine ⟨U,fun x=> ⟨fun G=> ?_,fun G=> ?_⟩⟩
   ·obtain ⟨i,hi,rfl⟩:=(I x).1 G
    exact ⟨i,by omega,rfl⟩
   ·obtain ⟨i,hi,rfl⟩:=G
    by_cases M:i=p
    ·subst M
     exact (I _).2 ⟨i - 1,by omega,J.2⟩
    ·exact (I _).2 ⟨i,by omega,rfl⟩
  ·rename_i J
   refine ⟨List.pairwise_append.2 ⟨U,List.pairwise_singleton _ _,fun x G y a1=> ?_⟩,fun x=> ⟨fun G=> ?_,fun G=> ?_⟩⟩
   ·obtain rfl:=List.mem_singleton.1 a1
    obtain ⟨i,hi,rfl⟩:=(I x).1 G
    have a7:=aE i hi
    have Z:=O (p - 1) (by omega)
    rw [show p - 1+1=p by omega] at Z
    have bx:S p≠S (p - 1):=fun h=>J ⟨by omega,h⟩
    grind
   ·rcases List.mem_append.1 G with G | G
    ·obtain ⟨i,hi,rfl⟩:=(I x).1 G
     exact ⟨i,by omega,rfl⟩
    ·exact ⟨p,by omega,List.mem_singleton.1 G⟩
   ·obtain ⟨i,hi,rfl⟩:=G
    by_cases M:i=p
    ·subst M
     exact List.mem_append_right _ (List.mem_singleton.2 rfl)
    ·exact List.mem_append_left _ ((I _).2 ⟨i,by omega,rfl⟩)
theorem aab (S:Nat→Rat) (lo hi:Rat) (N:Nat):∀ i,i+1 < (bL S lo hi N).length→(bL S lo hi N).getD i 0≤(bL S lo hi N).getD (i+1) 0:=by
 intro i J
 have h:=List.pairwise_mergeSort (le:=rM) (fun a b c I G=>by
  have I:decide (a≤b)=true:=I
  have G:decide (b≤c)=true:=G
  rw [decide_eq_true_eq] at I G
  exact decide_eq_true (Rat.le_trans I G)) (fun a b=>by
  show (decide (a≤b) ||decide (b≤a))=true
  rw [Bool.or_eq_true,decide_eq_true_eq,decide_eq_true_eq]
  exact Rat.le_total) (bn S lo hi N)
 have G:=List.pairwise_iff_getElem.1 h i (i+1) (by exact Nat.lt_of_succ_lt J) J (by omega)
 have G:decide _=true:=G
 rw [decide_eq_true_eq] at G
 rw [List.getD_eq_getElem?_getD,List.getD_eq_getElem?_getD,List.getElem?_eq_getElem J,List.getElem?_eq_getElem (Nat.lt_of_succ_lt J)]
 exact G
theorem DY (S:Nat→Rat) (lo hi:Rat) (N:Nat):(cI S lo hi N).Pairwise (· < ·)∧∀ x,x ∈ cI S lo hi N↔∃ i,i < N∧x=S i∧lo≤x∧x≤hi:=by
 obtain ⟨I,J⟩:=Lj (S:=qt (aL (bL S lo hi N))) (m:=(bL S lo hi N).length) (fun i G=>by
  rw [il _ (Nat.lt_of_succ_lt G),il _ G]
  exact aab S lo hi N i G) _ (Nat.le_refl _)
 refine ⟨I,fun x=> ?_⟩
 have e:(∃ i,i < (bL S lo hi N).length∧x=qt (aL (bL S lo hi N)) i)↔x ∈ bL S lo hi N:=by
  constructor
  ·rintro ⟨i,G,rfl⟩
   rw [il _ G,List.getD_eq_getElem?_getD,List.getElem?_eq_getElem G]
   exact List.getElem_mem G
  ·intro M
   obtain ⟨i,G,rfl⟩:=List.getElem_of_mem M
   refine ⟨i,G, ?_⟩
   rw [il _ G,List.getD_eq_getElem?_getD,List.getElem?_eq_getElem G];rfl
 rw [show (x ∈ cI S lo hi N)=(x ∈ aQ (qt (aL (bL S lo hi N))) (bL S lo hi N).length) from rfl,J,e]
 unfold bL
 rw [List.mem_mergeSort]
 exact mR S lo hi x N
theorem LX {S:Nat→Rat} {lo hi:Rat} {N i:Nat} (J:i < N) (G:lo≤S i) (I:S i≤hi):bn S lo hi N≠ []:=fun h=>by
 have:=(mR S lo hi (S i) N).2 ⟨i,J,rfl,G,I⟩
 rw [h] at this
 cases this
theorem LY {S:Nat→Rat} {lo hi:Rat} {N:Nat} (h:hi < lo):bn S lo hi N= []:=by
 cases G:bn S lo hi N with
 | nil=>rfl
 | cons x l=>
  obtain ⟨_,_,_,I,J⟩:=(mR S lo hi x N).1 (by rw [G];exact List.mem_cons_self)
  grind
structure SS (n:Nat) (ts:List Value) (m:Nat) (us:List Value) (C:List Rat):Prop where
 two:1 < C.length
 up:∀ i j,i < j→j < C.length→C.getD i 0 < C.getD j 0
 fst:C.getD 0 0=bN ts us
 lst:C.getD (C.length - 1) 0=bK n ts m us
 of1:∀ i,i < C.length→bN ts us≤C.getD i 0∧C.getD i 0≤bK n ts m us
 ahA:∀ i,i < n→bN ts us≤qt ts i→qt ts i≤bK n ts m us→∃ k,k < C.length∧C.getD k 0=qt ts i
 ahB:∀ i,i < m→bN ts us≤qt us i→qt us i≤bK n ts m us→∃ k,k < C.length∧C.getD k 0=qt us i
 mem:∀ i,i < C.length→(∃ j,j < n∧C.getD i 0=qt ts j)∨∃ j,j < m∧C.getD i 0=qt us j
section
variable {n : Nat} {ts ps : List Value} {m : Nat} {us qs : List Value}
theorem uF (l1:ts.length=n*3) (O:bj n ts n ps=true) (J:aS n ts n ps=0) (Z:us.length=m*3) (U:bj m us m qs=true) (M:aS m us m qs=0) (h:bN ts us≤bK n ts m us):bn (qt (ts ++ us)) (bN ts us) (bK n ts m us) (n+m)≠ []:=by
 obtain ⟨q1,q2⟩:=Fe l1 O J Z U M
 have p1:=(db J).2.1
 have p2:=(db M).2.1
 by_cases I:qt ts 0 < qt us 0
 ·have e:bN ts us=qt us 0:=if_pos I
  have G:=q2 0 p2
  exact LX (i:=n+0) (by omega) (by rw [G,e];exact Rat.le_refl) (by rw [G,← e];exact h)
 ·have e:bN ts us=qt ts 0:=if_neg I
  have G:=q1 0 p1
  exact LX (i:=0) (by omega) (by rw [G,e];exact Rat.le_refl) (by rw [G,← e];exact h)
theorem MY (l1:ts.length=n*3) (O:bj n ts n ps=true) (a1:aS n ts n ps=0) (c0:us.length=m*3) (b6:bj m us m qs=true) (a6:aS m us m qs=0) (h:bN ts us < bK n ts m us):SS n ts m us (bM n ts m us):=by
 obtain ⟨q1,q2⟩:=Fe l1 O a1 c0 b6 a6
 have p1:=(db a1).2.1
 have p2:=(db a6).2.1
 obtain ⟨ch,U⟩:=DY (qt (ts ++ us)) (bN ts us) (bK n ts m us) (n+m)
 have Z:∀ i,i < n→bN ts us≤qt ts i→qt ts i≤bK n ts m us→qt ts i ∈ bM n ts m us:=fun i hi a b=>(U _).2 ⟨i,by omega,(q1 i hi).symm,a,b⟩
 have ab:∀ i,i < m→bN ts us≤qt us i→qt us i≤bK n ts m us→qt us i ∈ bM n ts m us:=fun i hi a b=>(U _).2 ⟨n+i,by omega,(q2 i hi).symm,a,b⟩
 have b7:bN ts us ∈ bM n ts m us:=by
  by_cases G:qt ts 0 < qt us 0
  ·have e:bN ts us=qt us 0:=if_pos G
   have:=ab 0 p2 (by rw [e];exact Rat.le_refl) (by rw [← e];exact Rat.le_of_lt h)
   rwa [← e] at this
  ·have e:bN ts us=qt ts 0:=if_neg G
   have:=Z 0 p1 (by rw [e];exact Rat.le_refl) (by rw [← e];exact Rat.le_of_lt h)
   rwa [← e] at this
 have b4:bK n ts m us ∈ bM n ts m us:=by
  by_cases G:qt us (m - 1) < qt ts (n - 1)
  ·have e:bK n ts m us=qt us (m - 1):=if_pos G
   have:=ab (m - 1) (by omega) (by rw [← e];exact Rat.le_of_lt h) (by rw [e];exact Rat.le_refl)
   rwa [← e] at this
  ·have e:bK n ts m us=qt ts (n - 1):=if_neg G
   have:=Z (n - 1) (by omega) (by rw [← e];exact Rat.le_of_lt h) (by rw [e];exact Rat.le_refl)
   rwa [← e] at this
 have J:∀ x,x ∈ bM n ts m us→∃ k,k < (bM n ts m us).length∧(bM n ts m us).getD k 0=x:=fun x ct=>by
  obtain ⟨k,O,rfl⟩:=List.getElem_of_mem ct
  exact ⟨k,O,by rw [List.getD_eq_getElem?_getD,List.getElem?_eq_getElem O];rfl⟩
 have bx:∀ i,i < (bM n ts m us).length→(bM n ts m us).getD i 0 ∈ bM n ts m us:=fun i hi=>by
  rw [List.getD_eq_getElem?_getD,List.getElem?_eq_getElem hi]
  exact List.getElem_mem hi
 have b3:∀ i j,i < j→j < (bM n ts m us).length→(bM n ts m us).getD i 0 < (bM n ts m us).getD j 0:=fun i j a7 I=>by
  have:=List.pairwise_iff_getElem.1 ch i j (by show i < (bM n ts m us).length;omega) I a7
  rw [List.getD_eq_getElem?_getD,List.getElem?_eq_getElem (show i < (bM n ts m us).length by omega),List.getD_eq_getElem?_getD,List.getElem?_eq_getElem I]
  exact this
 have aE:∀ i,i < (bM n ts m us).length→bN ts us≤(bM n ts m us).getD i 0∧(bM n ts m us).getD i 0≤bK n ts m us:=fun i hi=>by
  obtain ⟨_,_,_,a,b⟩:=(U _).1 (bx i hi)
  exact ⟨a,b⟩
 obtain ⟨k0,b5,b0⟩:=J _ b7
 obtain ⟨k1,c4,b1⟩:=J _ b4
 have b2:∀ i j,i≤j→j < (bM n ts m us).length→(bM n ts m us).getD i 0≤(bM n ts m us).getD j 0:=fun i j a7 I=>by
  by_cases M:i=j
  ·subst M;exact Rat.le_refl
  ·exact Rat.le_of_lt (b3 i j (by omega) I)
 refine ⟨?_,b3, ?_, ?_,aE,fun i hi a b=>J _ (Z i hi a b),fun i hi a b=>J _ (ab i hi a b),fun i hi=> ?_⟩
 ·refine Classical.byContradiction fun c3=> ?_
  have:k0=k1:=by omega
  subst this
  rw [b0] at b1
  grind
 ·have a:=(aE 0 (by omega)).1
  have b:=b2 0 k0 (by omega) b5
  rw [b0] at b
  exact Rat.le_antisymm b a
 ·have a:=(aE ((bM n ts m us).length - 1) (by omega)).2
  have b:=b2 k1 ((bM n ts m us).length - 1) (by omega) (by omega)
  rw [b1] at b
  exact Rat.le_antisymm a b
 ·obtain ⟨j,I,M,_⟩:=(U _).1 (bx i hi)
  by_cases bD:j < n
  ·exact .inl ⟨j,bD,M.trans (q1 j bD)⟩
  ·have:=q2 (j - n) (by omega)
   rw [show n+(j - n)=j by omega] at this
   exact .inr ⟨j - n,by omega,M.trans this⟩
end
end
end Go.Proofs.YtamcpiicmfielaaGreat.L
namespace Go.Proofs.YtamcpiicmfielaaGreat.L
open Go Go.V Go.RowKit Go.Proofs.YtamcpiicmfielaaGreat.Sp
open Go.Proofs (Tryz.prog)
noncomputable section
structure Lh where
 lo:Nat→List Value→Nat→List Value→Nat→List Value→Nat→List Value→Bool
 ln:Nat→List Value→Nat→List Value→Nat→List Value→Nat→List Value→Bool
 lc:Nat→List Value→Nat→List Value→Nat
 lr:Nat→List Value→Nat→List Value→List Value
def uE (n:Nat) (ts:List Value) (m:Nat) (ps:List Value) (G:Nat) (us:List Value) (I:Nat) (qs:List Value):Prop:=n=m∧G=I∧n≤10∧G≤10∧bj n ts m ps=true∧aS n ts m ps=0∧bj G us I qs=true∧aS G us I qs=0
def ij:Lh where
 lo n ts m ps G us I qs:= @decide (uE n ts m ps G us I qs∧bN ts us < bK n ts G us) (Classical.propDecidable _)
 ln n ts m ps G us I qs:= @decide (uE n ts m ps G us I qs∧¬ bN ts us < bK n ts G us) (Classical.propDecidable _)
 lc n ts G us:=(bM n ts G us).length - 1
 lr n ts G us:=ig (bM n ts G us)
def sP (L:Lh):TF:=fun args=>match args with
 | [.agg [.lst _ 27 n f, .lst _ 35 m g], .agg [.lst _ 27 G I, .lst _ 35 J M]]=>
  some (an 3 n f&&an 6 m g&&(an 3 G I&&an 6 J M)&&L.lo n (ag 3 n f) m (ag 6 m g) G (ag 3 G I) J (ag 6 J M),
   .tup [.lst false 52 (L.lc n (ag 3 n f) G (ag 3 G I)) (ad 6 (L.lr n (ag 3 n f) G (ag 3 G I))), .val (.int .i64 0)])
 | _=>none
def wE (L:Lh):TF:=fun args=>match args with
 | [.agg [.lst _ 27 n f, .lst _ 35 m g], .agg [.lst _ 27 I J, .lst _ 35 G M]]=>
  some (an 3 n f&&an 6 m g&&(an 3 I J&&an 6 G M)&&L.ln n (ag 3 n f) m (ag 6 m g) I (ag 3 I J) G (ag 6 G M), .tup [.val (.slice none 0 0), .val (.int .i64 0)])
 | _=>none
theorem Z3 {n:Nat} {ts:List Value} {m:Nat} {ps:List Value} {G:Nat} {us:List Value} {O:Nat} {qs:List Value} (l1:ts.length=n*3) (l2:ps.length=m*6) (M:us.length=G*3) (a6:qs.length=O*6) (h:uE n ts m ps G us O qs) (U:bN ts us < bK n ts G us):
  aF Tryz.prog ⟨lN aX af,o9,nS jI cT (tq oc gI (mG cS aq))⟩ 10 10 24 [aW n ts m ps,aW G us O qs]=some (sX (bM n ts G us)):=by
 obtain ⟨rfl,rfl,aE,ab,I,ca,J,cb⟩:=h
 have a7:=(db ca).2.1
 have bx:=(db cb).2.1
 have a1:=uF l1 I ca M J cb (Rat.le_of_lt U)
 have Z:=MY l1 I ca M J cb U
 obtain ⟨p,rfl⟩:∃ p,n=p+1:= ⟨n - 1,by omega⟩
 obtain ⟨r,rfl⟩:∃ r,G=r+1:= ⟨G - 1,by omega⟩
 exact Z6 p r ts ps us qs l1 l2 M a6 I ca J cb aE ab a1 Z.two
theorem XQ:Entry Tryz.prog 24 (sP ij):=by
 refine gV (by kernel_rfl) (fun args r h=> ?_)
 unfold sP at h
 split at h
 ·rename_i fl n f a6 m g a7 a1 I bx aE J
  simp only [Option.some.injEq,Prod.mk.injEq,Bool.and_eq_true] at h
  obtain ⟨⟨⟨⟨M,O⟩,U,Z⟩,G⟩,rfl⟩:=h
  obtain ⟨G,ab⟩:= @of_decide_eq_true _ (Classical.propDecidable _) G
  exact ⟨⟨lN aX af,o9,nS jI cT (tq oc gI (mG cS aq))⟩,10,10,_,_,AX,(J3 (SF (SP aB.none))).ok,Z3 (bI 3 n f) (bI 6 m g) (bI 3 a1 I) (bI 6 aE J) G ab,bc.cons (dM M O) (bc.cons (dM U Z) (bc.refl _)),bE.refl _⟩
 ·cases h
theorem MZ {n:Nat} {ts ps:List Value} {m:Nat} {us qs:List Value} (l1:ts.length=n*3) (Z:bj n ts n ps=true) (O:aS n ts n ps=0) (a6:us.length=m*3) (ab:bj m us m qs=true) (U:aS m us m qs=0) (h:bN ts us=bK n ts m us):(bM n ts m us).length=1:=by
 obtain ⟨a1,I⟩:=DY (qt (ts ++ us)) (bN ts us) (bK n ts m us) (n+m)
 have aE:=uF l1 Z O a6 ab U (by rw [h];exact Rat.le_refl)
 have b1:(bM n ts m us).length≠0:=fun G=>by
  have G:cI (qt (ts ++ us)) (bN ts us) (bK n ts m us) (n+m)= []:=List.length_eq_zero_iff.1 G
  cases M:bn (qt (ts ++ us)) (bN ts us) (bK n ts m us) (n+m) with
  | nil=>exact aE M
  | cons x l=>
   have:=(I x).2 ((mR _ _ _ x (n+m)).1 (by rw [M];exact List.mem_cons_self))
   rw [G] at this
   cases this
 refine Classical.byContradiction fun b2=> ?_
 have J:1 < (cI (qt (ts ++ us)) (bN ts us) (bK n ts m us) (n+m)).length:=by show 1 < (bM n ts m us).length;omega
 have b3:=List.pairwise_iff_getElem.1 a1 0 1 (by omega) J (by omega)
 obtain ⟨_,_,_,a7,bx⟩:=(I _).1 (List.getElem_mem (show 0 < (cI (qt (ts ++ us)) (bN ts us) (bK n ts m us) (n+m)).length by omega))
 obtain ⟨_,_,_,bD,b0⟩:=(I _).1 (List.getElem_mem J)
 grind
theorem Z2 {n:Nat} {ts:List Value} {m:Nat} {ps:List Value} {G:Nat} {us:List Value} {O:Nat} {qs:List Value} (l1:ts.length=n*3) (l2:ps.length=m*6) (M:us.length=G*3) (aE:qs.length=O*6) (h:uE n ts m ps G us O qs) (b0:¬ bN ts us < bK n ts G us):
  ∃ E:Env,bf Tryz.prog E.C∧dh Tryz.prog E∧aF Tryz.prog E 10 10 24 [aW n ts m ps,aW G us O qs]=some (.tup [.val (.slice none 0 0), .val (.int .i64 0)]):=by
 obtain ⟨rfl,rfl,ab,Z,I,ca,J,cb⟩:=h
 have bx:=(db ca).2.1
 have bD:=(db cb).2.1
 by_cases U:bN ts us=bK n ts G us
 ·have a6:=uF l1 I ca M J cb (by rw [U];exact Rat.le_refl)
  have a1:=MZ l1 I ca M J cb U
  obtain ⟨p,rfl⟩:∃ p,n=p+1:= ⟨n - 1,by omega⟩
  obtain ⟨r,rfl⟩:∃ r,G=r+1:= ⟨G - 1,by omega⟩
  exact ⟨_,AX,(J3 (SR aB.none)).ok,Z5 p r ts ps us qs l1 l2 M aE I ca J cb ab Z a6 a1⟩
 ·have a7:=LY (S:=qt (ts ++ us)) (N:=n+G) (lo:=bN ts us) (hi:=bK n ts G us) (by grind)
  obtain ⟨p,rfl⟩:∃ p,n=p+1:= ⟨n - 1,by omega⟩
  obtain ⟨r,rfl⟩:∃ r,G=r+1:= ⟨G - 1,by omega⟩
  exact ⟨_,AX,(Se aB.none).ok,Z4 p r ts ps us qs l1 l2 M aE I ca J cb ab Z a7⟩
theorem XP:Entry Tryz.prog 24 (wE ij):=by
 refine gV (by kernel_rfl) (fun args r h=> ?_)
 unfold wE at h
 split at h
 ·rename_i fl n f bx m g bD a7 I b0 a6 J
  simp only [Option.some.injEq,Prod.mk.injEq,Bool.and_eq_true] at h
  obtain ⟨⟨⟨⟨M,O⟩,U,Z⟩,G⟩,rfl⟩:=h
  obtain ⟨G,ab⟩:= @of_decide_eq_true _ (Classical.propDecidable _) G
  obtain ⟨E,k1,aE,a1⟩:=Z2 (bI 3 n f) (bI 6 m g) (bI 3 a7 I) (bI 6 a6 J) G ab
  exact ⟨E,10,10,_,_,k1,aE,a1,bc.cons (dM M O) (bc.cons (dM U Z) (bc.refl _)),bE.refl _⟩
 ·cases h
end
end Go.Proofs.YtamcpiicmfielaaGreat.L
