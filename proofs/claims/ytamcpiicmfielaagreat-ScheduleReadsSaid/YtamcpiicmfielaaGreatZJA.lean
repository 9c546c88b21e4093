import Derived.Test.YtamcpiicmfielaaGreatZI1
import Derived.Test.YtamcpiicmfielaaGreatZHW
import Derived.Test.YtamcpiicmfielaaGreatZHZ
import Derived.Deep.Slices
import Derived.Carry
import Derived.ChangeOld
import Derived.Lib.SmallJoins
set_option linter.unusedVariables false
set_option linter.unusedSimpArgs false
namespace Go.Proofs.YtamcpiicmfielaaGreat.L
open Go Go.V Go.RowKit Go.Proofs.YtamcpiicmfielaaGreat.Sp
open Go.Proofs (Tryz.prog)
noncomputable section
def we (j:Qg):Env:= ⟨an 44 (bM (rG j)) (an 47 (vH j) (an 56 (bM (vE j)) aF)),ar,aq⟩
abbrev lM:List Bool:= [false,true,false,true,true,true,true]
def ku (er:Int) (i:Int) (n:Nat) (ts:List Value) (m:Nat) (ps:List Value) (xb:Bool) (xn:ByteArray) (xd:ByteArray) (k:Nat) (pn:Nat) (pf:Nat→Nat→AV) (j:List Value):List AV:=av 56 [(2, .ptr 0 0),(3, .ptr 1 0),(4, .ptr 2 0),(5, .val (.int .i64 er)),(6, .ptr 3 0),(7, .val (.int .i64 i))]
def jE (er:Int) (i:Int) (n:Nat) (ts:List Value) (m:Nat) (ps:List Value) (xb:Bool) (xn:ByteArray) (xd:ByteArray) (k:Nat) (pn:Nat) (pf:Nat→Nat→AV) (j:List Value):Hp:= [.row (.cells [.lst false 27 n (ag 3 ts), .lst false 35 m (ag 6 ps)]) 25 .live, .row (.cells [.val (.bool xb), .val (.string xn), .val (.string xd)]) 27 .live, .row (.cells [.val (.slice none 0 0),.val (.slice none 0 0)]) 25 .live, .row (.cells [.sl false 27 4 0 k,.lst false 35 pn pf]) 25 .live, .row (.vals j) 27 .live]
theorem TB:aJ Tryz.prog 17 (false :: lM)=some (lb 17 lM):=by kernel_rfl
theorem Ny (j:Qg) (er:Int) (i:Int) (n:Nat) (ts:List Value) (m:Nat) (ps:List Value) (xb:Bool) (xn:ByteArray) (xd:ByteArray) (k:Nat) (pn:Nat) (pf:Nat→Nat→AV) (N:List Value):letI S:=(ts.getD (i.toNat*(3:Nat)+(1:Nat)) undef);letI U:=(ts.getD (i.toNat*(3:Nat)+(2:Nat)) undef);letI G:=(ts.getD (1:Nat) undef);letI I:=(ts.getD (2:Nat) undef);letI J:=(j.qv (aM (ts.getD (i.toNat*(3:Nat)+(0:Nat)) undef)) (ah S) (ah U) - j.qv (aM (ts.getD (0:Nat) undef)) (ah G) (ah I));letI M:=(j.qv xb xn xd*j.qv (j.qn J) (j.qs J) (j.qd J));letI O:=(j.qv (aM (ts.getD (0:Nat) undef)) (ah G) (ah I)+j.qv (j.qn M) (j.qs M) (j.qd M));
  (aN Tryz.prog (we j) 17 [2,3,4,5,6,7] (lb 17 lM) (false :: lM) (ku er i n ts m ps xb xn xd k pn pf N) (jE er i n ts m ps xb xn xd k pn pf N)=(bif decide (i < (↑n:Int)) then (bif decide ((0:Int)≤i)&&decide (i < (↑n:Int)) then (bif decide ((0:Int) < (↑n:Int)) then (bif aS (ts.getD (i.toNat*(3:Nat)+(0:Nat)) undef) S U&&aS (ts.getD (0:Nat) undef) G I&&(j.aL (ah S) (ah U)&&j.aL (ah G) (ah I)) then (bif j.aL xn xd&&j.aL (j.qs J) (j.qd J) then (bif decide ((0:Int) < (↑n:Int)) then (bif aS (ts.getD (0:Nat) undef) G I&&true&&(j.aL (ah G) (ah I)&&j.aL (j.qs M) (j.qd M)) then (bif decide (k*(3:Nat)≤(aC.vals N).len)&&cA Tryz.prog (k+(1:Nat)) (27:Nat)&&true then (bif aj IntKind.i64 (i+(1:Int)) then some (.normal,av 56 [(2,(.ptr 0 0)),(3,(.ptr 1 0)),(4,(.ptr 2 0)),(5,(.val (.int .i64 er))),(6,(.ptr 3 0)),(7,(.val (.int .i64 (i+(1:Int)))))], [(.row (.cells [(.lst false 27 n (ag (3:Nat) ts)),(.lst false 35 m (ag (6:Nat) ps))]) 25 .live),(.row (.cells [(.val (.bool xb)),(.val (.string xn)),(.val (.string xd))]) 27 .live),(.row (.cells [(.val (.slice .none 0 0)),(.val (.slice .none 0 0))]) 25 .live),(.row (.cells [(.sl false 27 4 0 (k+(1:Nat))),(.lst false 35 pn (pf))]) 25 .live),(.row (.vals ((List.take (k*(3:Nat)) N) ++ ([(.bool (j.qn O)),(.string (j.qs O)),(.string (j.qd O))]:List Value))) 27 .live)]) else none) else none) else none) else none) else none) else none) else none) else none) else some ((.exit 0),av 56 [(2,(.ptr 0 0)),(3,(.ptr 1 0)),(4,(.ptr 2 0)),(5,(.val (.int .i64 er))),(6,(.ptr 3 0)),(7,(.val (.int .i64 i)))], [(.row (.cells [(.lst false 27 n (ag (3:Nat) ts)),(.lst false 35 m (ag (6:Nat) ps))]) 25 .live),(.row (.cells [(.val (.bool xb)),(.val (.string xn)),(.val (.string xd))]) 27 .live),(.row (.cells [(.val (.slice .none 0 0)),(.val (.slice .none 0 0))]) 25 .live),(.row (.cells [(.sl false 27 4 0 k),(.lst false 35 pn (pf))]) 25 .live),(.row (.vals N) 27 .live)]))):=by kernel_rfl
theorem OD {er:Int} {i:Int} {n:Nat} {ts:List Value} {m:Nat} {ps:List Value} {xb:Bool} {xn:ByteArray} {xd:ByteArray} {k:Nat} {pn:Nat} {pf:Nat→Nat→AV} {j:List Value} {e:Ex} {T:List AV} {H:Hp} (h:aN Tryz.prog (we ad) 17 [2,3,4,5,6,7] (lb 17 lM) (false :: lM) (ku er i n ts m ps xb xn xd k pn pf j) (jE er i n ts m ps xb xn xd k pn pf j)=some (e,T,H)):V.Ends Tryz.prog false 0 0 (lb 17 lM) (ku er i n ts m ps xb xn xd k pn pf j) (jE er i n ts m ps xb xn xd k pn pf j) e T H:=
 bw ((((aH _).add qm.bM).add td).add tg.bM) aK mixed TB h
abbrev gO:List Bool:= [false,true,false,true,true,true,true]
def pB (er:Int) (i:Int) (n:Nat) (ts:List Value) (m:Nat) (ps:List Value) (xb:Bool) (xn:ByteArray) (xd:ByteArray) (pn:Nat) (pf:Nat→Nat→AV):List AV:=av 56 [(2, .ptr 0 0),(3, .ptr 1 0),(4, .ptr 2 0),(5, .val (.int .i64 er)),(6, .ptr 3 0),(7, .val (.int .i64 i))]
def oM (er:Int) (i:Int) (n:Nat) (ts:List Value) (m:Nat) (ps:List Value) (xb:Bool) (xn:ByteArray) (xd:ByteArray) (pn:Nat) (pf:Nat→Nat→AV):Hp:= [.row (.cells [.lst false 27 n (ag 3 ts), .lst false 35 m (ag 6 ps)]) 25 .live, .row (.cells [.val (.bool xb), .val (.string xn), .val (.string xd)]) 27 .live, .row (.cells [.val (.slice none 0 0),.val (.slice none 0 0)]) 25 .live, .row (.cells [.val (.slice none 0 0),.lst false 35 pn pf]) 25 .live]
theorem RV:aJ Tryz.prog 17 gO=some (.loop (lb 17 gO)):=by kernel_rfl
theorem TA:aJ Tryz.prog 17 (false :: gO)=some (lb 17 gO):=by kernel_rfl
theorem aaV (j:Qg) (er:Int) (i:Int) (n:Nat) (ts:List Value) (m:Nat) (ps:List Value) (xb:Bool) (xn:ByteArray) (xd:ByteArray) (pn:Nat) (pf:Nat→Nat→AV):letI O:=(ts.getD (i.toNat*(3:Nat)+(1:Nat)) undef);letI S:=(ts.getD (i.toNat*(3:Nat)+(2:Nat)) undef);letI G:=(ts.getD (1:Nat) undef);letI I:=(ts.getD (2:Nat) undef);letI J:=(j.qv (aM (ts.getD (i.toNat*(3:Nat)+(0:Nat)) undef)) (ah O) (ah S) - j.qv (aM (ts.getD (0:Nat) undef)) (ah G) (ah I));letI M:=(j.qv xb xn xd*j.qv (j.qn J) (j.qs J) (j.qd J));letI N:=(j.qv (aM (ts.getD (0:Nat) undef)) (ah G) (ah I)+j.qv (j.qn M) (j.qs M) (j.qd M));
  (aN Tryz.prog (we j) 17 [2,3,4,5,6,7] (lb 17 gO) (false :: gO) (pB er i n ts m ps xb xn xd pn pf) (oM er i n ts m ps xb xn xd pn pf)=(bif decide (i < (↑n:Int)) then (bif decide ((0:Int)≤i)&&decide (i < (↑n:Int)) then (bif decide ((0:Int) < (↑n:Int)) then (bif aS (ts.getD (i.toNat*(3:Nat)+(0:Nat)) undef) O S&&aS (ts.getD (0:Nat) undef) G I&&(j.aL (ah O) (ah S)&&j.aL (ah G) (ah I)) then (bif j.aL xn xd&&j.aL (j.qs J) (j.qd J) then (bif decide ((0:Int) < (↑n:Int)) then (bif aS (ts.getD (0:Nat) undef) G I&&true&&(j.aL (ah G) (ah I)&&j.aL (j.qs M) (j.qd M)) then (bif aj IntKind.i64 (i+(1:Int)) then some (.normal,av 56 [(2,(.ptr 0 0)),(3,(.ptr 1 0)),(4,(.ptr 2 0)),(5,(.val (.int .i64 er))),(6,(.ptr 3 0)),(7,(.val (.int .i64 (i+(1:Int)))))], [(.row (.cells [(.lst false 27 n (ag (3:Nat) ts)),(.lst false 35 m (ag (6:Nat) ps))]) 25 .live),(.row (.cells [(.val (.bool xb)),(.val (.string xn)),(.val (.string xd))]) 27 .live),(.row (.cells [(.val (.slice .none 0 0)),(.val (.slice .none 0 0))]) 25 .live),(.row (.cells [(.sl false 27 4 0 1),(.lst false 35 pn (pf))]) 25 .live),(.row (.cells [(.val (.bool (j.qn N))),(.val (.string (j.qs N))),(.val (.string (j.qd N)))]) 27 .live)]) else none) else none) else none) else none) else none) else none) else none) else some ((.exit 0),av 56 [(2,(.ptr 0 0)),(3,(.ptr 1 0)),(4,(.ptr 2 0)),(5,(.val (.int .i64 er))),(6,(.ptr 3 0)),(7,(.val (.int .i64 i)))], [(.row (.cells [(.lst false 27 n (ag (3:Nat) ts)),(.lst false 35 m (ag (6:Nat) ps))]) 25 .live),(.row (.cells [(.val (.bool xb)),(.val (.string xn)),(.val (.string xd))]) 27 .live),(.row (.cells [(.val (.slice .none 0 0)),(.val (.slice .none 0 0))]) 25 .live),(.row (.cells [(.val (.slice .none 0 0)),(.lst false 35 pn (pf))]) 25 .live)]))):=by kernel_rfl
theorem acC {er:Int} {i:Int} {n:Nat} {ts:List Value} {m:Nat} {ps:List Value} {xb:Bool} {xn:ByteArray} {xd:ByteArray} {pn:Nat} {pf:Nat→Nat→AV} {e:Ex} {T:List AV} {H:Hp} (h:aN Tryz.prog (we ad) 17 [2,3,4,5,6,7] (lb 17 gO) (false :: gO) (pB er i n ts m ps xb xn xd pn pf) (oM er i n ts m ps xb xn xd pn pf)=some (e,T,H)):V.Ends Tryz.prog false 0 0 (lb 17 gO) (pB er i n ts m ps xb xn xd pn pf) (oM er i n ts m ps xb xn xd pn pf) e T H:=
 bw ((((aH _).add qm.bM).add td).add tg.bM) aK mixed TA h
section
variable {er : Int} {n : Nat} {ts : List Value} {m : Nat} {ps : List Value} {xb : Bool} {xn xd : BA} {pn : Nat} {pf : Nat → Nat → AV}
theorem N3 (x:Rat) (j:Nat):qt ts 0+x*(qt ts j - qt ts 0)=aY ts x j:=by rw [N1];grind
theorem Py (j:∀ G,G < n→cb ts G=true) (J:bo xn xd=true) (i:Nat) (I:i < n):bg (qt ts i - qt ts 0)≤2001∧bg (ad.qv xb xn xd*(qt ts i - qt ts 0))≤3002:=by
 have M:=lG (j i I)
 have N:=lG (j 0 (by omega))
 have O:=nT xb xn xd
 have S:=mz J
 have U:=gv (qt ts i) (qt ts 0)
 have Z:=gu (ad.qv xb xn xd) (qt ts i - qt ts 0)
 omega
theorem aev (ab:n≤1000) (G:∀ O,O < n→cb ts O=true) (N:bo xn xd=true) (i:Nat) (M:i < n):V.Ends Tryz.prog false 0 0 (lb 17 lM) (ku er i n ts m ps xb xn xd i pn pf (aP i (aY ts (ad.qv xb xn xd)))) (jE er i n ts m ps xb xn xd i pn pf (aP i (aY ts (ad.qv xb xn xd)))) .normal (ku er ((i+1:Nat):Int) n ts m ps xb xn xd (i+1) pn pf (aP (i+1) (aY ts (ad.qv xb xn xd)))) (jE er ((i+1:Nat):Int) n ts m ps xb xn xd (i+1) pn pf (aP (i+1) (aY ts (ad.qv xb xn xd)))):=by
 obtain ⟨S,U⟩:=cm (G i M)
 obtain ⟨I,J⟩:=cm (G 0 (by omega))
 obtain ⟨a0,a1⟩:=Py (xb:=xb) G N i M
 have j:=Ny ad er i n ts m ps xb xn xd i pn pf (aP i (aY ts (ad.qv xb xn xd)))
 have Z:ad.qv (aM (ts.getD 0 undef)) (ah (ts.getD 1 undef)) (ah (ts.getD 2 undef))=qt ts 0:=rfl
 simp only [Nat.zero_mul,Nat.zero_add] at I J
 simp only [Int.toNat_natCast,kT,Z,gT,N3] at j
 rw [dT (show (i:Int) < (n:Int) by omega),dT (show (0:Int)≤(i:Int) by omega),dT (show (0:Int) < (n:Int) by omega),S,cz U,I,cz J,cz N,dz (q:=qt ts i - qt ts 0) (by omega),dz (q:=ad.qv xb xn xd*(qt ts i - qt ts 0)) (by omega),yJ (show i+1≤2000 by omega),aO (z:=(i:Int)+1) (by omega),dT (show i*3≤(aC.vals (aP i (aY ts (ad.qv xb xn xd)))).len from Nat.le_of_eq (eU i (aY ts (ad.qv xb xn xd))).symm),List.take_of_length_le (Nat.le_of_eq (eU i (aY ts (ad.qv xb xn xd))))] at j
 rw [qa i]
 exact OD j
theorem aeu (I:n≤1000) (M:∀ j,j < n→cb ts j=true) (J:bo xn xd=true) (k:Nat):∀ i:Nat,n=i+k→aw Tryz.prog (lb 17 lM) (ku er i n ts m ps xb xn xd i pn pf (aP i (aY ts (ad.qv xb xn xd)))) (jE er i n ts m ps xb xn xd i pn pf (aP i (aY ts (ad.qv xb xn xd)))) (.exit 0) (ku er n n ts m ps xb xn xd n pn pf (aP n (aY ts (ad.qv xb xn xd)))) (jE er n n ts m ps xb xn xd n pn pf (aP n (aY ts (ad.qv xb xn xd)))):=by
 induction k with
 | zero=>
  intro i G
  have:i=n:=by omega
  subst this
  refine .last (OD ?_) (by intro h;cases h)
  rw [Ny,dF (show ¬ ((i:Nat):Int) < (i:Int) by omega)]
  rfl
 | succ k N=>
  intro i G
  exact .more (aev I M J i (by omega)) (N (i+1) (by omega))
theorem aeq (N:0 < n) (S:n≤1000) (I:∀ O,O < n→cb ts O=true) (j:bo xn xd=true):aw Tryz.prog (lb 17 lM) (pB er 0 n ts m ps xb xn xd pn pf) (oM er 0 n ts m ps xb xn xd pn pf) (.exit 0) (ku er n n ts m ps xb xn xd n pn pf (aP n (aY ts (ad.qv xb xn xd)))) (jE er n n ts m ps xb xn xd n pn pf (aP n (aY ts (ad.qv xb xn xd)))):=by
 obtain ⟨J,M⟩:=cm (I 0 N)
 obtain ⟨Z,ab⟩:=Py (xb:=xb) I j 0 N
 have G:=aaV ad er ((0:Nat):Int) n ts m ps xb xn xd pn pf
 have U:ad.qv (aM (ts.getD 0 undef)) (ah (ts.getD 1 undef)) (ah (ts.getD 2 undef))=qt ts 0:=rfl
 simp only [Nat.zero_mul,Nat.zero_add] at J M
 simp only [Int.toNat_natCast,Nat.zero_mul,Nat.zero_add,U,gT,N3] at G
 rw [dT (show ((0:Nat):Int) < (n:Int) by omega),dT (show (0:Int)≤((0:Nat):Int) by omega),dT (show (0:Int) < (n:Int) by omega),J,cz M,cz j,dz (q:=qt ts 0 - qt ts 0) (by omega),dz (q:=ad.qv xb xn xd*(qt ts 0 - qt ts 0)) (by omega),aO (z:=((0:Nat):Int)+1) (by omega)] at G
 exact .more (acC G) (aw.cS (aeu S I j (n - 1) 1 (by omega)) (aT.cons (bI.refl _) (aT.cons (bI.refl _) (aT.cons (bI.refl _) (aT.cons (bI.refl _) (aT.cons ⟨Ew rfl,rfl,rfl⟩ aT.nil))))))
end
def uW (er i:Int) (n:Nat) (ts:List Value) (m:Nat) (ps:List Value) (xb:Bool) (xn xd:BA) (pn:Nat) (pf:Nat→Nat→AV):Prop:=i=0∧0 < n∧n≤1000∧(∀ j,j < n→cb ts j=true)∧bo xn xd=true
def DO (er i:Int) (n:Nat) (ts:List Value) (m:Nat) (ps:List Value) (xb:Bool) (xn xd:BA) (pn:Nat) (pf:Nat→Nat→AV) (ρ:Int×Nat×List Value):Prop:=ρ.2=(n,aP n (aY ts (ad.qv xb xn xd)))
theorem Yr (er i:Int) (n:Nat) (ts:List Value) (m:Nat) (ps:List Value) (xb:Bool) (xn xd:BA) (pn:Nat) (pf:Nat→Nat→AV) (h:uW er i n ts m ps xb xn xd pn pf):∃ ρ:Int×Nat×List Value,aw Tryz.prog (lb 17 gO) (pB er i n ts m ps xb xn xd pn pf) (oM er i n ts m ps xb xn xd pn pf) (.exit 0) (ku er ρ.1 n ts m ps xb xn xd ρ.2.1 pn pf ρ.2.2) (jE er ρ.1 n ts m ps xb xn xd ρ.2.1 pn pf ρ.2.2)∧DO er i n ts m ps xb xn xd pn pf ρ:=by
 obtain ⟨rfl,I,j,J,G⟩:=h
 exact ⟨((n:Int),n,aP n (aY ts (ad.qv xb xn xd))),aeq I j J G,rfl⟩
def GJ (J:Int→Int→Nat→List Value→Nat→List Value→Bool→ByteArray→ByteArray→Nat→(Nat→Nat→AV)→Bool) (I:Int→Int→Nat→List Value→Nat→List Value→Bool→ByteArray→ByteArray→Nat→(Nat→Nat→AV)→Int×Nat×List Value) (T:List AV) (H:Hp):Option (Bool×Ex×List AV×Hp):=
 match al T 2,al T 3,al T 4,al T 5,al T 6,al T 7,H with
 | .ptr 0 0, .ptr 1 0, .ptr 2 0, .val (.int .i64 er), .ptr 3 0, .val (.int .i64 i), [.row (.cells [.lst false 27 n G, .lst false 35 m j]) 25 .live, .row (.cells [.val (.bool xb), .val (.string xn), .val (.string xd)]) 27 .live, .row (.cells [.val (.slice none 0 0),.val (.slice none 0 0)]) 25 .live, .row (.cells [.val (.slice none 0 0),.lst false 35 pn pf]) 25 .live]=>bif T.length==56 then some (au 3 n G&&au 6 m j&&J er i n (af 3 n G) m (af 6 m j) xb xn xd pn pf, .exit 0,ku er ((I er i n (af 3 n G) m (af 6 m j) xb xn xd pn pf).1) n (af 3 n G) m (af 6 m j) xb xn xd ((I er i n (af 3 n G) m (af 6 m j) xb xn xd pn pf).2.1) pn pf ((I er i n (af 3 n G) m (af 6 m j) xb xn xd pn pf).2.2),jE er ((I er i n (af 3 n G) m (af 6 m j) xb xn xd pn pf).1) n (af 3 n G) m (af 6 m j) xb xn xd ((I er i n (af 3 n G) m (af 6 m j) xb xn xd pn pf).2.1) pn pf ((I er i n (af 3 n G) m (af 6 m j) xb xn xd pn pf).2.2)) else none
 | _,_,_,_,_,_,_=>none
abbrev IN:Type:=Int→Int→Nat→List Value→Nat→List Value→Bool→ByteArray→ByteArray→Nat→(Nat→Nat→AV)→Bool
abbrev Ih:Type:=Int→Int→Nat→List Value→Nat→List Value→Bool→ByteArray→ByteArray→Nat→(Nat→Nat→AV)→Int×Nat×List Value
def r9 (j:IN) (G:Ih) (L:aE):aE:=bp 0 17 gO [2,3,4,5,6,7] (GJ j G) L
def iK (er:Int) (i:Int) (n:Nat) (ts:List Value) (m:Nat) (ps:List Value) (xb:Bool) (xn:ByteArray) (xd:ByteArray) (pn:Nat) (pf:Nat→Nat→AV):Int×Nat×List Value:=Classical.epsilon fun ρ=>aw Tryz.prog (lb 17 gO) (pB er i n ts m ps xb xn xd pn pf) (oM er i n ts m ps xb xn xd pn pf) (.exit 0) (ku er (ρ.1) n ts m ps xb xn xd (ρ.2.1) pn pf (ρ.2.2)) (jE er (ρ.1) n ts m ps xb xn xd (ρ.2.1) pn pf (ρ.2.2))∧DO er i n ts m ps xb xn xd pn pf ρ
theorem MQ (er:Int) (i:Int) (n:Nat) (ts:List Value) (m:Nat) (ps:List Value) (xb:Bool) (xn:ByteArray) (xd:ByteArray) (pn:Nat) (pf:Nat→Nat→AV) (h:uW er i n ts m ps xb xn xd pn pf):aw Tryz.prog (lb 17 gO) (pB er i n ts m ps xb xn xd pn pf) (oM er i n ts m ps xb xn xd pn pf) (.exit 0) (ku er ((iK er i n ts m ps xb xn xd pn pf).1) n ts m ps xb xn xd ((iK er i n ts m ps xb xn xd pn pf).2.1) pn pf ((iK er i n ts m ps xb xn xd pn pf).2.2)) (jE er ((iK er i n ts m ps xb xn xd pn pf).1) n ts m ps xb xn xd ((iK er i n ts m ps xb xn xd pn pf).2.1) pn pf ((iK er i n ts m ps xb xn xd pn pf).2.2))∧DO er i n ts m ps xb xn xd pn pf (iK er i n ts m ps xb xn xd pn pf):=Classical.epsilon_spec (Yr er i n ts m ps xb xn xd pn pf h)
def qi (er:Int) (i:Int) (n:Nat) (ts:List Value) (m:Nat) (ps:List Value) (xb:Bool) (xn:ByteArray) (xd:ByteArray) (pn:Nat) (pf:Nat→Nat→AV):Bool:= @decide (uW er i n ts m ps xb xn xd pn pf) (Classical.propDecidable _)
theorem Uw (er:Int) (i:Int) (n:Nat) (ts:List Value) (m:Nat) (ps:List Value) (xb:Bool) (xn:ByteArray) (xd:ByteArray) (pn:Nat) (pf:Nat→Nat→AV) (h:uW er i n ts m ps xb xn xd pn pf):qi er i n ts m ps xb xn xd pn pf=true:= @decide_eq_true _ (Classical.propDecidable _) h
theorem adW (T:List AV) (H:Hp) (e:Ex) (I:List AV) (G:Hp) (h:GJ qi iK T H=some (true,e,I,G)):V.Ends Tryz.prog false 0 0 (.loop (lb 17 gO)) T H e I G:=by
 unfold GJ at h
 split at h
 ·rename_i er i n O m N xb xn xd pn pf S U Z ab a0 a1
  rw [Bool.cond_eq_ite] at h
  split at h
  ·rename_i J
   rw [beq_iff_eq] at J
   simp only [Option.some.injEq,Prod.mk.injEq,Bool.and_eq_true,decide_eq_true_eq] at h
   obtain ⟨⟨⟨k1,a4⟩,a5⟩,rfl,rfl,rfl⟩:=h
   have a6:= @of_decide_eq_true _ (Classical.propDecidable _) a5
   refine Ends.pre (Ends.cS (MQ er i n (af 3 n O) m (af 6 m N) xb xn xd pn pf a6).1.ends (aT.cons ⟨⟨rfl,fun _ _ _ _ _ a2=>ei (by kernel_rfl) (by kernel_rfl) k1 a4 a2⟩,rfl,rfl⟩ (aT.cons (bI.refl _) (aT.cons (bI.refl _) (aT.cons (bI.refl _) aT.nil))))) (fun α B w D a7 a3=>bm J (fun p M y j=> ?_) a3)
   simp only [List.mem_cons,List.not_mem_nil,or_false] at M
   rcases M with rfl | rfl | rfl | rfl | rfl | rfl
   ·rw [S] at j;exact j
   ·rw [U] at j;exact j
   ·rw [Z] at j;exact j
   ·rw [ab] at j;exact j
   ·rw [a0] at j;exact j
   ·rw [a1] at j;exact j
  ·cases h
 ·cases h
theorem Bc {L:aE} (h:aB Tryz.prog L):aB Tryz.prog (r9 qi iK L):=h.br RV adW
def pW (C:Cg) (j:Qg):FuncId→TF:=an 19 (eE C) (an 51 (jb j fun b n d=> .val (.int .i64 (j.ck b n d))) (an 55 (FG j) aF))
theorem Es (C:Cg) (j:Qg) (M:IN) (N:Ih) (n:Nat) (ts:List Value) (m:Nat) (ps:List Value) (xb:Bool) (xn xd:BA):letI I:=(af (3:Nat) n (ag (3:Nat) ts));letI J:=(af (6:Nat) m (ag (6:Nat) ps));letI G:=(N (0:Int) (0:Int) n I m J xb xn xd m (ag (6:Nat) ps));
  (aD Tryz.prog ⟨pW C j,ar,r9 M N aq⟩ 10 10 17 [bH n ts m ps,w3 xb xn xd]=(bif au (3:Nat) n (ag (3:Nat) ts)&&au (6:Nat) m (ag (6:Nat) ps)&&C.ko n I m J then (bif !decide (C.ck n I m J=(0:Int)) then some (.tup [(.agg [(.val (.slice .none 0 0)),(.val (.slice .none 0 0))]),(.val (.int .i64 1))]) else (bif j.aL xn xd then (bif !decide (j.ck xb xn xd=(0:Int)) then some (.tup [(.agg [(.val (.slice .none 0 0)),(.val (.slice .none 0 0))]),(.val (.int .i64 1))]) else (bif j.aL xn xd then (bif decide (j.sq (j.qv xb xn xd)≤(0:Int)) then some (.tup [(.agg [(.val (.slice .none 0 0)),(.val (.slice .none 0 0))]),(.val (.int .i64 2))]) else (bif au (3:Nat) n (ag (3:Nat) ts)&&au (6:Nat) m (ag (6:Nat) ps)&&M (0:Int) (0:Int) n I m J xb xn xd m (ag (6:Nat) ps) then (bif decide ((0:Nat)+G.snd.fst*(3:Nat)≤(aC.vals G.snd.snd).len) then some (.tup [(.agg [(.lst false 27 (G.snd.fst) (ig (aC.vals G.snd.snd) [] (0:Nat) (3:Nat))),(.lst false 35 m (ag (6:Nat) ps))]),(.val (.int .i64 0))]) else none) else none)) else none)) else none)) else none)):=by kernel_rfl
theorem Z8 (G:Io) (j:HK) (n:Nat) (ts:List Value) (m:Nat) (ps:List Value) (xb:Bool) (xn xd:BA):aD Tryz.prog ⟨aF,ar,AR G j aq⟩ 10 10 54 [bH n ts m ps,w3 xb xn xd]=
  (bif au (3:Nat) n (ag (3:Nat) ts)&&au (6:Nat) m (ag (6:Nat) ps)&&G (0:Int) n (af (3:Nat) n (ag (3:Nat) ts)) m (af (6:Nat) m (ag (6:Nat) ps)) xb xn xd m (ag (6:Nat) ps) then (bif decide ((0:Nat)+(j (0:Int) n (af (3:Nat) n (ag (3:Nat) ts)) m (af (6:Nat) m (ag (6:Nat) ps)) xb xn xd m (ag (6:Nat) ps)).snd.fst*(3:Nat)≤(aC.vals (j (0:Int) n (af (3:Nat) n (ag (3:Nat) ts)) m (af (6:Nat) m (ag (6:Nat) ps)) xb xn xd m (ag (6:Nat) ps)).snd.snd).len) then some (.agg [(.lst false 27 ((j (0:Int) n (af (3:Nat) n (ag (3:Nat) ts)) m (af (6:Nat) m (ag (6:Nat) ps)) xb xn xd m (ag (6:Nat) ps)).snd.fst) (ig (aC.vals (j (0:Int) n (af (3:Nat) n (ag (3:Nat) ts)) m (af (6:Nat) m (ag (6:Nat) ps)) xb xn xd m (ag (6:Nat) ps)).snd.snd) [] (0:Nat) (3:Nat))),(.lst false 35 m (ag (6:Nat) ps))]) else none) else none):=by kernel_rfl
def Fs (D:Dg) (j:Qg):TF:=fun args=>match args with
 | [.agg [.lst _ 27 n f, .lst _ 35 m g], .agg [.val (.bool xb), .val (.string xn), .val (.string xd)]]=>some (au 3 n f&&au 6 m g&&D.dk n (af 3 n f) m (af 6 m g) xb xn xd,bH n (D.dt n (af 3 n f) (j.qv xb xn xd)) m (af 6 m g))
 | _=>none
def vX (C:Cg) (D:Dg) (j:Qg):FuncId→TF:=an 54 (Fs D j) (pW C j)
theorem MZ (C:Cg) (D:Dg) (j:Qg) (n:Nat) (ts:List Value) (m:Nat) (ps:List Value) (xb:Bool) (xn xd:BA):aD Tryz.prog ⟨vX C D j,ar,aq⟩ 10 10 15 [bH n ts m ps,w3 xb xn xd]=
  (bif au (3:Nat) n (ag (3:Nat) ts)&&au (6:Nat) m (ag (6:Nat) ps)&&C.ko n (af (3:Nat) n (ag (3:Nat) ts)) m (af (6:Nat) m (ag (6:Nat) ps)) then (bif !decide (C.ck n (af (3:Nat) n (ag (3:Nat) ts)) m (af (6:Nat) m (ag (6:Nat) ps))=(0:Int)) then some (.tup [(.agg [(.val (.slice .none 0 0)),(.val (.slice .none 0 0))]),(.val (.int .i64 1))]) else (bif j.aL xn xd then (bif !decide (j.ck xb xn xd=(0:Int)) then some (.tup [(.agg [(.val (.slice .none 0 0)),(.val (.slice .none 0 0))]),(.val (.int .i64 1))]) else (bif au (3:Nat) n (ag (3:Nat) ts)&&au (6:Nat) m (ag (6:Nat) ps)&&D.dk n (af (3:Nat) n (ag (3:Nat) ts)) m (af (6:Nat) m (ag (6:Nat) ps)) xb xn xd then some (.tup [(.agg [(.lst false 27 n (ag (3:Nat) (D.dt n (af (3:Nat) n (ag (3:Nat) ts)) (j.qv xb xn xd)))),(.lst false 35 m (ag (6:Nat) (af (6:Nat) m (ag (6:Nat) ps))))]),(.val (.int .i64 0))]) else none)) else none)) else none):=by kernel_rfl
end
end Go.Proofs.YtamcpiicmfielaaGreat.L
namespace Go.Proofs.YtamcpiicmfielaaGreat.L
open Go Go.V Go.RowKit Go.Proofs.YtamcpiicmfielaaGreat.Sp
open Go.Proofs (Tryz.prog)
noncomputable section
def Hu (K:Hg) (V:Vg) (j:Qg):Env:= ⟨an 48 (bM (vG j)) (an 44 (bM (rG j)) (an 45 (zj j) (an 101 (gD (rL K V j)) aF))),ar,aq⟩
abbrev ef:List Bool:= [false,true,false,true]
def eD (i:Int) (n:Nat) (ts:List Value) (m:Nat) (ps:List Value) (xb:Bool) (xn:ByteArray) (xd:ByteArray) (z0:Bool) (z1:ByteArray) (z2:ByteArray) (z3:Bool) (z4:ByteArray) (z5:ByteArray):List AV:=av 74 [(2, .ptr 0 0),(3, .ptr 1 0),(4, .ptr 2 0),(5, .val (.int .i64 i))]
def dP (i:Int) (n:Nat) (ts:List Value) (m:Nat) (ps:List Value) (xb:Bool) (xn:ByteArray) (xd:ByteArray) (z0:Bool) (z1:ByteArray) (z2:ByteArray) (z3:Bool) (z4:ByteArray) (z5:ByteArray):Hp:= [.row (.cells [.lst false 27 n (ag 3 ts), .lst false 35 m (ag 6 ps)]) 25 .live, .row (.cells [.val (.bool xb), .val (.string xn), .val (.string xd)]) 27 .live, .row (.cells [.val (.bool z0), .val (.string z1), .val (.string z2), .val (.bool z3), .val (.string z4), .val (.string z5)]) 35 .live]
theorem RC:aJ Tryz.prog 52 ef=some (.loop (lb 52 ef)):=by kernel_rfl
theorem Tb:aJ Tryz.prog 52 (false :: ef)=some (lb 52 ef):=by kernel_rfl
theorem En (K:Hg) (V:Vg) (j:Qg) (i:Int) (n:Nat) (ts:List Value) (m:Nat) (ps:List Value) (xb:Bool) (xn:ByteArray) (xd:ByteArray) (z0:Bool) (z1:ByteArray) (z2:ByteArray) (z3:Bool) (z4:ByteArray) (z5:ByteArray):letI U:=(ts.getD ((i - (1:Int)).toNat*(3:Nat)+(0:Nat)) undef);letI I:=(ts.getD ((i - (1:Int)).toNat*(3:Nat)+(1:Nat)) undef);letI J:=(ts.getD ((i - (1:Int)).toNat*(3:Nat)+(2:Nat)) undef);letI S:=(j.qv xb xn xd - j.qv (aM U) (ah I) (ah J));letI Z:=(ts.getD (i.toNat*(3:Nat)+(0:Nat)) undef);letI M:=(ts.getD (i.toNat*(3:Nat)+(1:Nat)) undef);letI N:=(ts.getD (i.toNat*(3:Nat)+(2:Nat)) undef);letI O:=(j.qv (aM Z) (ah M) (ah N) - j.qv (aM U) (ah I) (ah J));letI G:=(j.qv (j.qn S) (j.qs S) (j.qd S) / j.qv (j.qn O) (j.qs O) (j.qd O));letI ab:=(ps.getD ((i - (1:Int)).toNat*(6:Nat)+(1:Nat)) undef);letI a0:=(ps.getD ((i - (1:Int)).toNat*(6:Nat)+(2:Nat)) undef);letI a3:=(ps.getD (i.toNat*(6:Nat)+(1:Nat)) undef);letI a4:=(ps.getD (i.toNat*(6:Nat)+(2:Nat)) undef);letI a7:=(V.nc (j.qv (aM (ps.getD ((i - (1:Int)).toNat*(6:Nat)+(0:Nat)) undef)) (ah ab) (ah a0)) (j.qv (aM (ps.getD (i.toNat*(6:Nat)+(0:Nat)) undef)) (ah a3) (ah a4)) (j.qv (j.qn G) (j.qs G) (j.qd G)));letI a1:=(ps.getD ((i - (1:Int)).toNat*(6:Nat)+(4:Nat)) undef);letI a2:=(ps.getD ((i - (1:Int)).toNat*(6:Nat)+(5:Nat)) undef);letI a5:=(ps.getD (i.toNat*(6:Nat)+(4:Nat)) undef);letI a6:=(ps.getD (i.toNat*(6:Nat)+(5:Nat)) undef);letI bx:=(V.nc (j.qv (aM (ps.getD ((i - (1:Int)).toNat*(6:Nat)+(3:Nat)) undef)) (ah a1) (ah a2)) (j.qv (aM (ps.getD (i.toNat*(6:Nat)+(3:Nat)) undef)) (ah a5) (ah a6)) (j.qv (j.qn G) (j.qs G) (j.qd G)));
  (aN Tryz.prog (Hu K V j) 52 [2,3,4,5] (lb 52 ef) (false :: ef) (eD i n ts m ps xb xn xd z0 z1 z2 z3 z4 z5) (dP i n ts m ps xb xn xd z0 z1 z2 z3 z4 z5)=(bif decide (i < (↑n:Int)) then (bif decide ((0:Int)≤i)&&decide (i < (↑n:Int)) then (bif aS Z M N&&(j.aL xn xd&&j.aL (ah M) (ah N)) then (bif decide ((0:Int) < j.cq (j.qv xb xn xd) (j.qv (aM Z) (ah M) (ah N))) then (bif aj IntKind.i64 (i+(1:Int)) then some (.normal,av 74 [(2,(.ptr 0 0)),(3,(.ptr 1 0)),(4,(.ptr 2 0)),(5,(.val (.int .i64 (i+(1:Int)))))], [(.row (.cells [(.lst false 27 n (ag (3:Nat) ts)),(.lst false 35 m (ag (6:Nat) ps))]) 25 .live),(.row (.cells [(.val (.bool xb)),(.val (.string xn)),(.val (.string xd))]) 27 .live),(.row (.cells [(.val (.bool z0)),(.val (.string z1)),(.val (.string z2)),(.val (.bool z3)),(.val (.string z4)),(.val (.string z5))]) 35 .live)]) else none) else (bif decide (i=(0:Int)) then (bif decide ((0:Int) < (↑m:Int)) then (bif [(fun q=>ag (6:Nat) ps (Int.toNat (0:Int)) ((0:Nat)+q)) (nat_lit 0),(fun q=>ag (6:Nat) ps (Int.toNat (0:Int)) ((0:Nat)+q)) (nat_lit 1),(fun q=>ag (6:Nat) ps (Int.toNat (0:Int)) ((0:Nat)+q)) (nat_lit 2),(fun q=>ag (6:Nat) ps (Int.toNat (0:Int)) ((0:Nat)+q)) (nat_lit 3),(fun q=>ag (6:Nat) ps (Int.toNat (0:Int)) ((0:Nat)+q)) (nat_lit 4),(fun q=>ag (6:Nat) ps (Int.toNat (0:Int)) ((0:Nat)+q)) (nat_lit 5)].all eP then some (.ret,av 74 [(2,(.ptr 0 0)),(3,(.ptr 1 0)),(4,(.ptr 2 0)),(5,(.val (.int .i64 i)))], [(.row (.cells [(.lst false 27 n (ag (3:Nat) ts)),(.lst false 35 m (ag (6:Nat) ps))]) 25 .live),(.row (.cells [(.val (.bool xb)),(.val (.string xn)),(.val (.string xd))]) 27 .live),(.row (.cells [(.val (ps.getD (0:Nat) undef)),(.val (ps.getD (1:Nat) undef)),(.val (ps.getD (2:Nat) undef)),(.val (ps.getD (3:Nat) undef)),(.val (ps.getD (4:Nat) undef)),(.val (ps.getD (5:Nat) undef))]) 35 .live)]) else none) else none) else (bif aj IntKind.i64 (i - (1:Int)) then (bif decide ((0:Int)≤i - (1:Int))&&decide (i - (1:Int) < (↑n:Int)) then (bif aS U I J&&(j.aL xn xd&&j.aL (ah I) (ah J)) then (bif decide ((0:Int)≤i)&&decide (i < (↑n:Int)) then (bif aj IntKind.i64 (i - (1:Int)) then (bif decide ((0:Int)≤i - (1:Int))&&decide (i - (1:Int) < (↑n:Int)) then (bif aS Z M N&&aS U I J&&(j.aL (ah M) (ah N)&&j.aL (ah I) (ah J)) then (bif j.aL (j.qs S) (j.qd S)&&j.aL (j.qs O) (j.qd O) then (bif aj IntKind.i64 (i - (1:Int)) then (bif decide ((0:Int)≤i - (1:Int))&&decide (i - (1:Int) < (↑m:Int)) then (bif decide ((0:Int)≤i)&&decide (i < (↑m:Int)) then (bif aS (ps.getD ((i - (1:Int)).toNat*(6:Nat)+(0:Nat)) undef) ab a0&&aS (ps.getD ((i - (1:Int)).toNat*(6:Nat)+(3:Nat)) undef) a1 a2&&(aS (ps.getD (i.toNat*(6:Nat)+(0:Nat)) undef) a3 a4&&aS (ps.getD (i.toNat*(6:Nat)+(3:Nat)) undef) a5 a6)&&(K.ok (ah ab) (ah a0)&&K.ok (ah a1) (ah a2)&&K.ok (ah a3) (ah a4)&&K.ok (ah a5) (ah a6)&&V.eO (j.qs G) (j.qd G)) then some (.ret,av 74 [(2,(.ptr 0 0)),(3,(.ptr 1 0)),(4,(.ptr 2 0)),(5,(.val (.int .i64 i)))], [(.row (.cells [(.lst false 27 n (ag (3:Nat) ts)),(.lst false 35 m (ag (6:Nat) ps))]) 25 .live),(.row (.cells [(.val (.bool xb)),(.val (.string xn)),(.val (.string xd))]) 27 .live),(.row (.cells [(.val (.bool (j.qn a7))),(.val (.string (j.qs a7))),(.val (.string (j.qd a7))),(.val (.bool (j.qn bx))),(.val (.string (j.qs bx))),(.val (.string (j.qd bx)))]) 35 .live)]) else none) else none) else none) else none) else none) else none) else none) else none) else none) else none) else none) else none))) else none) else none) else some ((.exit 0),av 74 [(2,(.ptr 0 0)),(3,(.ptr 1 0)),(4,(.ptr 2 0)),(5,(.val (.int .i64 i)))], [(.row (.cells [(.lst false 27 n (ag (3:Nat) ts)),(.lst false 35 m (ag (6:Nat) ps))]) 25 .live),(.row (.cells [(.val (.bool xb)),(.val (.string xn)),(.val (.string xd))]) 27 .live),(.row (.cells [(.val (.bool z0)),(.val (.string z1)),(.val (.string z2)),(.val (.bool z3)),(.val (.string z4)),(.val (.string z5))]) 35 .live)]))):=by kernel_rfl
theorem yQ {i:Int} {n:Nat} {ts:List Value} {m:Nat} {ps:List Value} {xb:Bool} {xn:ByteArray} {xd:ByteArray} {z0:Bool} {z1:ByteArray} {z2:ByteArray} {z3:Bool} {z4:ByteArray} {z5:ByteArray} {e:Ex} {T:List AV} {H:Hp} (h:aN Tryz.prog (Hu a8 cC ad) 52 [2,3,4,5] (lb 52 ef) (false :: ef) (eD i n ts m ps xb xn xd z0 z1 z2 z3 z4 z5) (dP i n ts m ps xb xn xd z0 z1 z2 z3 z4 z5)=some (e,T,H)):V.Ends Tryz.prog false 0 0 (lb 52 ef) (eD i n ts m ps xb xn xd z0 z1 z2 z3 z4 z5) (dP i n ts m ps xb xn xd z0 z1 z2 z3 z4 z5) e T H:=
 bw (((((aH _).add VY.gD).add Kh).add tg.bM).add xw.bM) aK mixed Tb h
theorem BK {a b:Rat} :0 < ad.cq a b↔b < a:=by
 show 0 < ij a b↔_
 unfold ij
 split
 ·rename_i h;exact ⟨fun j=>by omega,fun j=>by grind⟩
 ·split
  ·rename_i h;exact ⟨fun _=>h,fun _=>by omega⟩
  ·rename_i h;exact ⟨fun j=>by omega,fun j=>absurd j h⟩
section
variable {n : Nat} {ts ps : List Value} {xb : Bool} {xn xd : BA} {z0 : Bool} {z1 z2 : BA} {z3 : Bool} {z4 z5 : BA}
theorem Sh {j:Nat} (h:cP ps j=true) (Z:lx ps j=0):ps.getD (j*6+0) undef= .bool (ad.qn (px ps j))∧ps.getD (j*6+1) undef= .string (ad.qs (px ps j))∧ps.getD (j*6+2) undef= .string (ad.qd (px ps j))∧ps.getD (j*6+3) undef= .bool (ad.qn (py ps j))∧ps.getD (j*6+4) undef= .string (ad.qs (py ps j))∧ps.getD (j*6+5) undef= .string (ad.qd (py ps j)):=by
 obtain ⟨⟨k1,ab⟩,_,_⟩:=cY h
 obtain ⟨S,U⟩:=K2 Z
 obtain ⟨G,I,J⟩:=sr k1 S
 obtain ⟨M,N,O⟩:=sr ab U
 exact ⟨G,I,J,M,N,O⟩
theorem ND (h:mf n ts) (N:bo xn xd=true) (i:Nat) (M:i < n) (G:qt ts i < ad.qv xb xn xd):V.Ends Tryz.prog false 0 0 (lb 52 ef) (eD i n ts n ps xb xn xd z0 z1 z2 z3 z4 z5) (dP i n ts n ps xb xn xd z0 z1 z2 z3 z4 z5) .normal (eD ((i+1:Nat):Int) n ts n ps xb xn xd z0 z1 z2 z3 z4 z5) (dP ((i+1:Nat):Int) n ts n ps xb xn xd z0 z1 z2 z3 z4 z5):=by
 have O:=h.ai
 obtain ⟨I,J⟩:=cm (h.ok i M)
 have j:=En a8 cC ad i n ts n ps xb xn xd z0 z1 z2 z3 z4 z5
 simp only [Int.toNat_natCast] at j
 unfold qt at G
 rw [dT (show (i:Int) < (n:Int) by omega),dT (show (0:Int)≤(i:Int) by omega),I,cz J,cz N,dT (BK.2 G),aO (z:=(i:Int)+1) (by omega)] at j
 exact yQ j
theorem aa0 (h:c9 n ts n ps) (a0:bo xn xd=true) (i:Nat) (G:i < n) (b0:cB ts (ad.qv xb xn xd) n=i) (I:¬ qt ts i < ad.qv xb xn xd):V.Ends Tryz.prog false 0 0 (lb 52 ef) (eD i n ts n ps xb xn xd z0 z1 z2 z3 z4 z5) (dP i n ts n ps xb xn xd z0 z1 z2 z3 z4 z5) .ret (eD i n ts n ps xb xn xd (ad.qn (bq n ts (px ps) (ad.qv xb xn xd))) (ad.qs (bq n ts (px ps) (ad.qv xb xn xd))) (ad.qd (bq n ts (px ps) (ad.qv xb xn xd))) (ad.qn (bq n ts (py ps) (ad.qv xb xn xd))) (ad.qs (bq n ts (py ps) (ad.qv xb xn xd))) (ad.qd (bq n ts (py ps) (ad.qv xb xn xd)))) (dP i n ts n ps xb xn xd (ad.qn (bq n ts (px ps) (ad.qv xb xn xd))) (ad.qs (bq n ts (px ps) (ad.qv xb xn xd))) (ad.qd (bq n ts (px ps) (ad.qv xb xn xd))) (ad.qn (bq n ts (py ps) (ad.qv xb xn xd))) (ad.qs (bq n ts (py ps) (ad.qv xb xn xd))) (ad.qd (bq n ts (py ps) (ad.qv xb xn xd)))):=by
 have b1:=h.ts.ai
 obtain ⟨S,U⟩:=cm (h.ts.ok i G)
 have j:=En a8 cC ad i n ts n ps xb xn xd z0 z1 z2 z3 z4 z5
 unfold bq
 rw [b0]
 cases i with
 | zero=>
  obtain ⟨J,M,N,O,a1,a2⟩:=Sh (h.dh 0 G) (h.can 0 G)
  simp only [Nat.zero_mul,Nat.zero_add] at J M N O a1 a2 S U
  unfold qt at I
  simp only [Nat.zero_mul,Nat.zero_add] at I
  simp only [Int.toNat_natCast,Nat.zero_mul,Nat.zero_add] at j
  rw [dT (show ((0:Nat):Int) < (n:Int) by omega),dT (show (0:Int)≤((0:Nat):Int) by omega),S,cz U,cz a0,dF (fun ab=>I (BK.1 ab)),dT (show ((0:Nat):Int)=0 from rfl),dT (show (0:Int) < (n:Int) by omega)] at j
  have Z:=yi (h.dh 0 G)
  unfold ag at j Z
  simp only [Nat.zero_mul,Nat.zero_add,Int.toNat_zero] at j Z
  rw [Z,J,M,N,O,a1,a2] at j
  rw [if_pos rfl,if_pos rfl]
  exact yQ j
 | succ k=>
  obtain ⟨⟨a3,a4⟩,a5,a6⟩:=cY (h.dh k (by omega))
  obtain ⟨⟨J,M⟩,N,O⟩:=cY (h.dh (k+1) G)
  obtain ⟨a7,bx⟩:=cm (h.ts.ok k (by omega))
  have bD:((k+1:Nat):Int) - 1=(k:Int):=by omega
  have b2:bg (ad.qv xb xn xd)≤1000:=by
   have:=mz a0
   have:=nT xb xn xd
   omega
  have b6:=lG (h.ts.ok k (by omega))
  have b7:=lG (h.ts.ok (k+1) G)
  have b3:=gv (ad.qv xb xn xd) (qt ts k)
  have b4:=gv (qt ts (k+1)) (qt ts k)
  have b5:=Fo (ad.qv xb xn xd - qt ts k) (qt ts (k+1) - qt ts k)
  unfold qt at I
  simp only [bD,Int.toNat_natCast] at j
  rw [dF (fun ab=>I (BK.1 ab))] at j
  simp only [kT,yA,yB,gT] at j
  rw [dT (show ((k+1:Nat):Int) < (n:Int) by omega),dT (show (0:Int)≤((k+1:Nat):Int) by omega),S,cz U,cz a0,dF (show ¬ ((k+1:Nat):Int)=0 by omega),aO (z:=(k:Int)) (by omega),dT (show (0:Int)≤(k:Int) by omega),dT (show (k:Int) < (n:Int) by omega),a7,cz bx,a3,a4,a5,a6,J,M,N,O,
   dz (q:=ad.qv xb xn xd - qt ts k) (by omega),dz (q:=qt ts (k+1) - qt ts k) (by omega),yg (q:=(ad.qv xb xn xd - qt ts k) / (qt ts (k+1) - qt ts k)) (by omega)] at j
  rw [if_neg (show ¬ k+1=0 by omega),if_neg (show ¬ k+1=0 by omega),if_neg (show ¬ k+1=n by omega),if_neg (show ¬ k+1=n by omega),Nat.add_sub_cancel]
  exact yQ j
theorem aaZ (h:mf n ts) (I:bo xn xd=true) (J:∀ j,j < n→qt ts j < ad.qv xb xn xd) (k:Nat):∀ i:Nat,n=i+k→aw Tryz.prog (lb 52 ef) (eD i n ts n ps xb xn xd z0 z1 z2 z3 z4 z5) (dP i n ts n ps xb xn xd z0 z1 z2 z3 z4 z5) (.exit 0) (eD n n ts n ps xb xn xd z0 z1 z2 z3 z4 z5) (dP n n ts n ps xb xn xd z0 z1 z2 z3 z4 z5):=by
 induction k with
 | zero=>
  intro i G
  have:i=n:=by omega
  subst this
  refine .last (yQ ?_) (by intro h;cases h)
  rw [En,dF (show ¬ ((i:Nat):Int) < (i:Int) by omega)]
  rfl
 | succ k M=>
  intro i G
  exact .more (ND h I i (by omega) (J i (by omega))) (M (i+1) (by omega))
theorem aa4 (h:c9 n ts n ps) (j:bo xn xd=true) (s:Nat) (M:s < n) (O:cB ts (ad.qv xb xn xd) n=s) (J:∀ G,G < s→qt ts G < ad.qv xb xn xd) (N:¬ qt ts s < ad.qv xb xn xd) (k:Nat):∀ i:Nat,s=i+k→aw Tryz.prog (lb 52 ef) (eD i n ts n ps xb xn xd z0 z1 z2 z3 z4 z5) (dP i n ts n ps xb xn xd z0 z1 z2 z3 z4 z5) .ret (eD s n ts n ps xb xn xd (ad.qn (bq n ts (px ps) (ad.qv xb xn xd))) (ad.qs (bq n ts (px ps) (ad.qv xb xn xd))) (ad.qd (bq n ts (px ps) (ad.qv xb xn xd))) (ad.qn (bq n ts (py ps) (ad.qv xb xn xd))) (ad.qs (bq n ts (py ps) (ad.qv xb xn xd))) (ad.qd (bq n ts (py ps) (ad.qv xb xn xd)))) (dP s n ts n ps xb xn xd (ad.qn (bq n ts (px ps) (ad.qv xb xn xd))) (ad.qs (bq n ts (px ps) (ad.qv xb xn xd))) (ad.qd (bq n ts (px ps) (ad.qv xb xn xd))) (ad.qn (bq n ts (py ps) (ad.qv xb xn xd))) (ad.qs (bq n ts (py ps) (ad.qv xb xn xd))) (ad.qd (bq n ts (py ps) (ad.qv xb xn xd)))):=by
 induction k with
 | zero=>
  intro i I
  have:i=s:=by omega
  subst this
  exact .last (aa0 h j i M O N) (by intro h;cases h)
 | succ k S=>
  intro i I
  exact .more (ND h.ts j i (by omega) (J i (by omega))) (S (i+1) (by omega))
end
def uE (i:Int) (n:Nat) (ts:List Value) (m:Nat) (ps:List Value) (xb:Bool) (xn xd:BA) (z0:Bool) (z1 z2:BA) (z3:Bool) (z4 z5:BA):Prop:=i=0∧n=m∧c9 n ts m ps∧bo xn xd=true∧cB ts (ad.qv xb xn xd) n=n
def DA (i:Int) (n:Nat) (ts:List Value) (m:Nat) (ps:List Value) (xb:Bool) (xn xd:BA) (z0:Bool) (z1 z2:BA) (z3:Bool) (z4 z5:BA) (ρ:Int):Prop:=True
theorem X8 (i:Int) (n:Nat) (ts:List Value) (m:Nat) (ps:List Value) (xb:Bool) (xn xd:BA) (z0:Bool) (z1 z2:BA) (z3:Bool) (z4 z5:BA) (h:uE i n ts m ps xb xn xd z0 z1 z2 z3 z4 z5):∃ ρ:Int,aw Tryz.prog (lb 52 ef) (eD i n ts m ps xb xn xd z0 z1 z2 z3 z4 z5) (dP i n ts m ps xb xn xd z0 z1 z2 z3 z4 z5) (.exit 0) (eD ρ n ts m ps xb xn xd z0 z1 z2 z3 z4 z5) (dP ρ n ts m ps xb xn xd z0 z1 z2 z3 z4 z5)∧DA i n ts m ps xb xn xd z0 z1 z2 z3 z4 z5 ρ:=by
 obtain ⟨rfl,rfl,G,I,J⟩:=h
 obtain ⟨M,j,N⟩:=vq ts (ad.qv xb xn xd) n
 rw [J] at j
 exact ⟨(n:Int),aaZ G.ts I j n 0 (by omega),trivial⟩
def Gp (J:Int→Nat→List Value→Nat→List Value→Bool→ByteArray→ByteArray→Bool→ByteArray→ByteArray→Bool→ByteArray→ByteArray→Bool) (I:Int→Nat→List Value→Nat→List Value→Bool→ByteArray→ByteArray→Bool→ByteArray→ByteArray→Bool→ByteArray→ByteArray→Int) (T:List AV) (H:Hp):Option (Bool×Ex×List AV×Hp):=
 match al T 2,al T 3,al T 4,al T 5,H with
 | .ptr 0 0, .ptr 1 0, .ptr 2 0, .val (.int .i64 i), [.row (.cells [.lst false 27 n G, .lst false 35 m j]) 25 .live, .row (.cells [.val (.bool xb), .val (.string xn), .val (.string xd)]) 27 .live, .row (.cells [.val (.bool z0), .val (.string z1), .val (.string z2), .val (.bool z3), .val (.string z4), .val (.string z5)]) 35 .live]=>bif T.length==74 then some (au 3 n G&&au 6 m j&&J i n (af 3 n G) m (af 6 m j) xb xn xd z0 z1 z2 z3 z4 z5, .exit 0,eD ((I i n (af 3 n G) m (af 6 m j) xb xn xd z0 z1 z2 z3 z4 z5)) n (af 3 n G) m (af 6 m j) xb xn xd z0 z1 z2 z3 z4 z5,dP ((I i n (af 3 n G) m (af 6 m j) xb xn xd z0 z1 z2 z3 z4 z5)) n (af 3 n G) m (af 6 m j) xb xn xd z0 z1 z2 z3 z4 z5) else none
 | _,_,_,_,_=>none
abbrev ID:Type:=Int→Nat→List Value→Nat→List Value→Bool→ByteArray→ByteArray→Bool→ByteArray→ByteArray→Bool→ByteArray→ByteArray→Bool
abbrev H5:Type:=Int→Nat→List Value→Nat→List Value→Bool→ByteArray→ByteArray→Bool→ByteArray→ByteArray→Bool→ByteArray→ByteArray→Int
def A7 (j:ID) (G:H5) (L:aE):aE:=bp 0 52 ef [2,3,4,5] (Gp j G) L
def qY (i:Int) (n:Nat) (ts:List Value) (m:Nat) (ps:List Value) (xb:Bool) (xn:ByteArray) (xd:ByteArray) (z0:Bool) (z1:ByteArray) (z2:ByteArray) (z3:Bool) (z4:ByteArray) (z5:ByteArray):Int:=Classical.epsilon fun ρ=>aw Tryz.prog (lb 52 ef) (eD i n ts m ps xb xn xd z0 z1 z2 z3 z4 z5) (dP i n ts m ps xb xn xd z0 z1 z2 z3 z4 z5) (.exit 0) (eD (ρ) n ts m ps xb xn xd z0 z1 z2 z3 z4 z5) (dP (ρ) n ts m ps xb xn xd z0 z1 z2 z3 z4 z5)∧DA i n ts m ps xb xn xd z0 z1 z2 z3 z4 z5 ρ
theorem Zn (i:Int) (n:Nat) (ts:List Value) (m:Nat) (ps:List Value) (xb:Bool) (xn:ByteArray) (xd:ByteArray) (z0:Bool) (z1:ByteArray) (z2:ByteArray) (z3:Bool) (z4:ByteArray) (z5:ByteArray) (h:uE i n ts m ps xb xn xd z0 z1 z2 z3 z4 z5):aw Tryz.prog (lb 52 ef) (eD i n ts m ps xb xn xd z0 z1 z2 z3 z4 z5) (dP i n ts m ps xb xn xd z0 z1 z2 z3 z4 z5) (.exit 0) (eD ((qY i n ts m ps xb xn xd z0 z1 z2 z3 z4 z5)) n ts m ps xb xn xd z0 z1 z2 z3 z4 z5) (dP ((qY i n ts m ps xb xn xd z0 z1 z2 z3 z4 z5)) n ts m ps xb xn xd z0 z1 z2 z3 z4 z5)∧DA i n ts m ps xb xn xd z0 z1 z2 z3 z4 z5 (qY i n ts m ps xb xn xd z0 z1 z2 z3 z4 z5):=Classical.epsilon_spec (X8 i n ts m ps xb xn xd z0 z1 z2 z3 z4 z5 h)
def xf (i:Int) (n:Nat) (ts:List Value) (m:Nat) (ps:List Value) (xb:Bool) (xn:ByteArray) (xd:ByteArray) (z0:Bool) (z1:ByteArray) (z2:ByteArray) (z3:Bool) (z4:ByteArray) (z5:ByteArray):Bool:= @decide (uE i n ts m ps xb xn xd z0 z1 z2 z3 z4 z5) (Classical.propDecidable _)
theorem Ub (i:Int) (n:Nat) (ts:List Value) (m:Nat) (ps:List Value) (xb:Bool) (xn:ByteArray) (xd:ByteArray) (z0:Bool) (z1:ByteArray) (z2:ByteArray) (z3:Bool) (z4:ByteArray) (z5:ByteArray) (h:uE i n ts m ps xb xn xd z0 z1 z2 z3 z4 z5):xf i n ts m ps xb xn xd z0 z1 z2 z3 z4 z5=true:= @decide_eq_true _ (Classical.propDecidable _) h
theorem adD (T:List AV) (H:Hp) (e:Ex) (I:List AV) (G:Hp) (h:Gp xf qY T H=some (true,e,I,G)):V.Ends Tryz.prog false 0 0 (.loop (lb 52 ef)) T H e I G:=by
 unfold Gp at h
 split at h
 ·rename_i i n O m N xb xn xd z0 z1 z2 z3 z4 z5 S U Z ab
  rw [Bool.cond_eq_ite] at h
  split at h
  ·rename_i J
   rw [beq_iff_eq] at J
   simp only [Option.some.injEq,Prod.mk.injEq,Bool.and_eq_true,decide_eq_true_eq] at h
   obtain ⟨⟨⟨k1,a2⟩,a3⟩,rfl,rfl,rfl⟩:=h
   have a4:= @of_decide_eq_true _ (Classical.propDecidable _) a3
   refine Ends.pre (Ends.cS (Zn i n (af 3 n O) m (af 6 m N) xb xn xd z0 z1 z2 z3 z4 z5 a4).1.ends (aT.cons ⟨⟨rfl,fun _ _ _ _ _ a0=>ei (by kernel_rfl) (by kernel_rfl) k1 a2 a0⟩,rfl,rfl⟩ (aT.cons (bI.refl _) (aT.cons (bI.refl _) aT.nil)))) (fun α B w D a5 a1=>bm J (fun p M y j=> ?_) a1)
   simp only [List.mem_cons,List.not_mem_nil,or_false] at M
   rcases M with rfl | rfl | rfl | rfl
   ·rw [S] at j;exact j
   ·rw [U] at j;exact j
   ·rw [Z] at j;exact j
   ·rw [ab] at j;exact j
  ·cases h
 ·cases h
theorem Qt {L:aE} (h:aB Tryz.prog L):aB Tryz.prog (A7 xf qY L):=h.br RC adD
abbrev o6:List Bool:= [false,true,false,true]
def pz (i:Int) (n:Nat) (ts:List Value) (m:Nat) (ps:List Value) (xb:Bool) (xn:ByteArray) (xd:ByteArray) (z0:Bool) (z1:ByteArray) (z2:ByteArray) (z3:Bool) (z4:ByteArray) (z5:ByteArray):List AV:=av 74 [(2, .ptr 0 0),(3, .ptr 1 0),(4, .ptr 2 0),(5, .val (.int .i64 i))]
def oK (i:Int) (n:Nat) (ts:List Value) (m:Nat) (ps:List Value) (xb:Bool) (xn:ByteArray) (xd:ByteArray) (z0:Bool) (z1:ByteArray) (z2:ByteArray) (z3:Bool) (z4:ByteArray) (z5:ByteArray):Hp:= [.row (.cells [.lst false 27 n (ag 3 ts), .lst false 35 m (ag 6 ps)]) 25 .live, .row (.cells [.val (.bool xb), .val (.string xn), .val (.string xd)]) 27 .live, .row (.cells [.val (.bool z0), .val (.string z1), .val (.string z2), .val (.bool z3), .val (.string z4), .val (.string z5)]) 35 .live]
theorem RD:aJ Tryz.prog 52 o6=some (.loop (lb 52 o6)):=by kernel_rfl
def uF (i:Int) (n:Nat) (ts:List Value) (m:Nat) (ps:List Value) (xb:Bool) (xn xd:BA) (z0:Bool) (z1 z2:BA) (z3:Bool) (z4 z5:BA):Prop:=i=0∧n=m∧c9 n ts m ps∧bo xn xd=true∧cB ts (ad.qv xb xn xd) n < n
def DB (i:Int) (n:Nat) (ts:List Value) (m:Nat) (ps:List Value) (xb:Bool) (xn xd:BA) (z0:Bool) (z1 z2:BA) (z3:Bool) (z4 z5:BA) (ρ:Int×Bool×BA×BA×Bool×BA×BA):Prop:=ρ.2=(ad.qn (bq n ts (px ps) (ad.qv xb xn xd)),ad.qs (bq n ts (px ps) (ad.qv xb xn xd)),ad.qd (bq n ts (px ps) (ad.qv xb xn xd)),ad.qn (bq n ts (py ps) (ad.qv xb xn xd)),ad.qs (bq n ts (py ps) (ad.qv xb xn xd)),ad.qd (bq n ts (py ps) (ad.qv xb xn xd)))
theorem X9 (i:Int) (n:Nat) (ts:List Value) (m:Nat) (ps:List Value) (xb:Bool) (xn xd:BA) (z0:Bool) (z1 z2:BA) (z3:Bool) (z4 z5:BA) (h:uF i n ts m ps xb xn xd z0 z1 z2 z3 z4 z5):∃ ρ:Int×Bool×BA×BA×Bool×BA×BA,aw Tryz.prog (lb 52 o6) (pz i n ts m ps xb xn xd z0 z1 z2 z3 z4 z5) (oK i n ts m ps xb xn xd z0 z1 z2 z3 z4 z5) .ret (pz ρ.1 n ts m ps xb xn xd ρ.2.1 ρ.2.2.1 ρ.2.2.2.1 ρ.2.2.2.2.1 ρ.2.2.2.2.2.1 ρ.2.2.2.2.2.2) (oK ρ.1 n ts m ps xb xn xd ρ.2.1 ρ.2.2.1 ρ.2.2.2.1 ρ.2.2.2.2.1 ρ.2.2.2.2.2.1 ρ.2.2.2.2.2.2)∧DB i n ts m ps xb xn xd z0 z1 z2 z3 z4 z5 ρ:=by
 obtain ⟨rfl,rfl,J,M,j⟩:=h
 obtain ⟨N,G,I⟩:=vq ts (ad.qv xb xn xd) n
 exact ⟨(_,ad.qn (bq n ts (px ps) (ad.qv xb xn xd)),ad.qs (bq n ts (px ps) (ad.qv xb xn xd)),ad.qd (bq n ts (px ps) (ad.qv xb xn xd)),ad.qn (bq n ts (py ps) (ad.qv xb xn xd)),ad.qs (bq n ts (py ps) (ad.qv xb xn xd)),ad.qd (bq n ts (py ps) (ad.qv xb xn xd))),aa4 J M _ j rfl G (I j) _ 0 (Nat.zero_add _).symm,rfl⟩
def Gq (J:Int→Nat→List Value→Nat→List Value→Bool→ByteArray→ByteArray→Bool→ByteArray→ByteArray→Bool→ByteArray→ByteArray→Bool) (I:Int→Nat→List Value→Nat→List Value→Bool→ByteArray→ByteArray→Bool→ByteArray→ByteArray→Bool→ByteArray→ByteArray→Int×Bool×ByteArray×ByteArray×Bool×ByteArray×ByteArray) (T:List AV) (H:Hp):Option (Bool×Ex×List AV×Hp):=
 match al T 2,al T 3,al T 4,al T 5,H with
 | .ptr 0 0, .ptr 1 0, .ptr 2 0, .val (.int .i64 i), [.row (.cells [.lst false 27 n G, .lst false 35 m j]) 25 .live, .row (.cells [.val (.bool xb), .val (.string xn), .val (.string xd)]) 27 .live, .row (.cells [.val (.bool z0), .val (.string z1), .val (.string z2), .val (.bool z3), .val (.string z4), .val (.string z5)]) 35 .live]=>bif T.length==74 then some (au 3 n G&&au 6 m j&&J i n (af 3 n G) m (af 6 m j) xb xn xd z0 z1 z2 z3 z4 z5, .ret,pz ((I i n (af 3 n G) m (af 6 m j) xb xn xd z0 z1 z2 z3 z4 z5).1) n (af 3 n G) m (af 6 m j) xb xn xd ((I i n (af 3 n G) m (af 6 m j) xb xn xd z0 z1 z2 z3 z4 z5).2.1) ((I i n (af 3 n G) m (af 6 m j) xb xn xd z0 z1 z2 z3 z4 z5).2.2.1) ((I i n (af 3 n G) m (af 6 m j) xb xn xd z0 z1 z2 z3 z4 z5).2.2.2.1) ((I i n (af 3 n G) m (af 6 m j) xb xn xd z0 z1 z2 z3 z4 z5).2.2.2.2.1) ((I i n (af 3 n G) m (af 6 m j) xb xn xd z0 z1 z2 z3 z4 z5).2.2.2.2.2.1) ((I i n (af 3 n G) m (af 6 m j) xb xn xd z0 z1 z2 z3 z4 z5).2.2.2.2.2.2),oK ((I i n (af 3 n G) m (af 6 m j) xb xn xd z0 z1 z2 z3 z4 z5).1) n (af 3 n G) m (af 6 m j) xb xn xd ((I i n (af 3 n G) m (af 6 m j) xb xn xd z0 z1 z2 z3 z4 z5).2.1) ((I i n (af 3 n G) m (af 6 m j) xb xn xd z0 z1 z2 z3 z4 z5).2.2.1) ((I i n (af 3 n G) m (af 6 m j) xb xn xd z0 z1 z2 z3 z4 z5).2.2.2.1) ((I i n (af 3 n G) m (af 6 m j) xb xn xd z0 z1 z2 z3 z4 z5).2.2.2.2.1) ((I i n (af 3 n G) m (af 6 m j) xb xn xd z0 z1 z2 z3 z4 z5).2.2.2.2.2.1) ((I i n (af 3 n G) m (af 6 m j) xb xn xd z0 z1 z2 z3 z4 z5).2.2.2.2.2.2)) else none
 | _,_,_,_,_=>none
abbrev IE:Type:=Int→Nat→List Value→Nat→List Value→Bool→ByteArray→ByteArray→Bool→ByteArray→ByteArray→Bool→ByteArray→ByteArray→Bool
abbrev H6:Type:=Int→Nat→List Value→Nat→List Value→Bool→ByteArray→ByteArray→Bool→ByteArray→ByteArray→Bool→ByteArray→ByteArray→Int×Bool×ByteArray×ByteArray×Bool×ByteArray×ByteArray
def A8 (j:IE) (G:H6) (L:aE):aE:=bp 0 52 o6 [2,3,4,5] (Gq j G) L
def dA (i:Int) (n:Nat) (ts:List Value) (m:Nat) (ps:List Value) (xb:Bool) (xn:ByteArray) (xd:ByteArray) (z0:Bool) (z1:ByteArray) (z2:ByteArray) (z3:Bool) (z4:ByteArray) (z5:ByteArray):Int×Bool×ByteArray×ByteArray×Bool×ByteArray×ByteArray:=Classical.epsilon fun ρ=>aw Tryz.prog (lb 52 o6) (pz i n ts m ps xb xn xd z0 z1 z2 z3 z4 z5) (oK i n ts m ps xb xn xd z0 z1 z2 z3 z4 z5) (.ret) (pz (ρ.1) n ts m ps xb xn xd (ρ.2.1) (ρ.2.2.1) (ρ.2.2.2.1) (ρ.2.2.2.2.1) (ρ.2.2.2.2.2.1) (ρ.2.2.2.2.2.2)) (oK (ρ.1) n ts m ps xb xn xd (ρ.2.1) (ρ.2.2.1) (ρ.2.2.2.1) (ρ.2.2.2.2.1) (ρ.2.2.2.2.2.1) (ρ.2.2.2.2.2.2))∧DB i n ts m ps xb xn xd z0 z1 z2 z3 z4 z5 ρ
theorem MA (i:Int) (n:Nat) (ts:List Value) (m:Nat) (ps:List Value) (xb:Bool) (xn:ByteArray) (xd:ByteArray) (z0:Bool) (z1:ByteArray) (z2:ByteArray) (z3:Bool) (z4:ByteArray) (z5:ByteArray) (h:uF i n ts m ps xb xn xd z0 z1 z2 z3 z4 z5):aw Tryz.prog (lb 52 o6) (pz i n ts m ps xb xn xd z0 z1 z2 z3 z4 z5) (oK i n ts m ps xb xn xd z0 z1 z2 z3 z4 z5) (.ret) (pz ((dA i n ts m ps xb xn xd z0 z1 z2 z3 z4 z5).1) n ts m ps xb xn xd ((dA i n ts m ps xb xn xd z0 z1 z2 z3 z4 z5).2.1) ((dA i n ts m ps xb xn xd z0 z1 z2 z3 z4 z5).2.2.1) ((dA i n ts m ps xb xn xd z0 z1 z2 z3 z4 z5).2.2.2.1) ((dA i n ts m ps xb xn xd z0 z1 z2 z3 z4 z5).2.2.2.2.1) ((dA i n ts m ps xb xn xd z0 z1 z2 z3 z4 z5).2.2.2.2.2.1) ((dA i n ts m ps xb xn xd z0 z1 z2 z3 z4 z5).2.2.2.2.2.2)) (oK ((dA i n ts m ps xb xn xd z0 z1 z2 z3 z4 z5).1) n ts m ps xb xn xd ((dA i n ts m ps xb xn xd z0 z1 z2 z3 z4 z5).2.1) ((dA i n ts m ps xb xn xd z0 z1 z2 z3 z4 z5).2.2.1) ((dA i n ts m ps xb xn xd z0 z1 z2 z3 z4 z5).2.2.2.1) ((dA i n ts m ps xb xn xd z0 z1 z2 z3 z4 z5).2.2.2.2.1) ((dA i n ts m ps xb xn xd z0 z1 z2 z3 z4 z5).2.2.2.2.2.1) ((dA i n ts m ps xb xn xd z0 z1 z2 z3 z4 z5).2.2.2.2.2.2))∧DB i n ts m ps xb xn xd z0 z1 z2 z3 z4 z5 (dA i n ts m ps xb xn xd z0 z1 z2 z3 z4 z5):=Classical.epsilon_spec (X9 i n ts m ps xb xn xd z0 z1 z2 z3 z4 z5 h)
def xg (i:Int) (n:Nat) (ts:List Value) (m:Nat) (ps:List Value) (xb:Bool) (xn:ByteArray) (xd:ByteArray) (z0:Bool) (z1:ByteArray) (z2:ByteArray) (z3:Bool) (z4:ByteArray) (z5:ByteArray):Bool:= @decide (uF i n ts m ps xb xn xd z0 z1 z2 z3 z4 z5) (Classical.propDecidable _)
theorem Uc (i:Int) (n:Nat) (ts:List Value) (m:Nat) (ps:List Value) (xb:Bool) (xn:ByteArray) (xd:ByteArray) (z0:Bool) (z1:ByteArray) (z2:ByteArray) (z3:Bool) (z4:ByteArray) (z5:ByteArray) (h:uF i n ts m ps xb xn xd z0 z1 z2 z3 z4 z5):xg i n ts m ps xb xn xd z0 z1 z2 z3 z4 z5=true:= @decide_eq_true _ (Classical.propDecidable _) h
theorem adE (T:List AV) (H:Hp) (e:Ex) (I:List AV) (G:Hp) (h:Gq xg dA T H=some (true,e,I,G)):V.Ends Tryz.prog false 0 0 (.loop (lb 52 o6)) T H e I G:=by
 unfold Gq at h
 split at h
 ·rename_i i n O m N xb xn xd z0 z1 z2 z3 z4 z5 S U Z ab
  rw [Bool.cond_eq_ite] at h
  split at h
  ·rename_i J
   rw [beq_iff_eq] at J
   simp only [Option.some.injEq,Prod.mk.injEq,Bool.and_eq_true,decide_eq_true_eq] at h
   obtain ⟨⟨⟨k1,a2⟩,a3⟩,rfl,rfl,rfl⟩:=h
   have a4:= @of_decide_eq_true _ (Classical.propDecidable _) a3
   refine Ends.pre (Ends.cS (MA i n (af 3 n O) m (af 6 m N) xb xn xd z0 z1 z2 z3 z4 z5 a4).1.ends (aT.cons ⟨⟨rfl,fun _ _ _ _ _ a0=>ei (by kernel_rfl) (by kernel_rfl) k1 a2 a0⟩,rfl,rfl⟩ (aT.cons (bI.refl _) (aT.cons (bI.refl _) aT.nil)))) (fun α B w D a5 a1=>bm J (fun p M y j=> ?_) a1)
   simp only [List.mem_cons,List.not_mem_nil,or_false] at M
   rcases M with rfl | rfl | rfl | rfl
   ·rw [S] at j;exact j
   ·rw [U] at j;exact j
   ·rw [Z] at j;exact j
   ·rw [ab] at j;exact j
  ·cases h
 ·cases h
theorem Qu {L:aE} (h:aB Tryz.prog L):aB Tryz.prog (A8 xg dA L):=h.br RD adE
theorem aa2 (I:ID) (J:H5) (n:Nat) (ts:List Value) (m:Nat) (ps:List Value) (xb:Bool) (xn xd:BA):letI j:=(af (6:Nat) m (ag (6:Nat) ps));letI G:=((↑m:Int) - (1:Int));
  (aD Tryz.prog ⟨aF,ar,A7 I J aq⟩ 10 10 52 [bH n ts m ps,w3 xb xn xd]=(bif au (3:Nat) n (ag (3:Nat) ts)&&au (6:Nat) m (ag (6:Nat) ps)&&I (0:Int) n (af (3:Nat) n (ag (3:Nat) ts)) m j xb xn xd false (ByteArray.mk #[]) (ByteArray.mk #[]) false (ByteArray.mk #[]) (ByteArray.mk #[]) then (bif aj IntKind.i64 G then (bif decide ((0:Int)≤(↑m:Int) - (1:Int))&&decide ((↑m:Int) - (1:Int) < (↑m:Int)) then (bif [(fun q=>ag (6:Nat) j G.toNat ((0:Nat)+q)) (nat_lit 0),(fun q=>ag (6:Nat) j G.toNat ((0:Nat)+q)) (nat_lit 1),(fun q=>ag (6:Nat) j G.toNat ((0:Nat)+q)) (nat_lit 2),(fun q=>ag (6:Nat) j G.toNat ((0:Nat)+q)) (nat_lit 3),(fun q=>ag (6:Nat) j G.toNat ((0:Nat)+q)) (nat_lit 4),(fun q=>ag (6:Nat) j G.toNat ((0:Nat)+q)) (nat_lit 5)].all eP then some (.agg [(.val (j.getD (G.toNat*(6:Nat)+(0:Nat)) undef)),(.val (j.getD (G.toNat*(6:Nat)+(1:Nat)) undef)),(.val (j.getD (G.toNat*(6:Nat)+(2:Nat)) undef)),(.val (j.getD (G.toNat*(6:Nat)+(3:Nat)) undef)),(.val (j.getD (G.toNat*(6:Nat)+(4:Nat)) undef)),(.val (j.getD (G.toNat*(6:Nat)+(5:Nat)) undef))]) else none) else none) else none) else none)):=by kernel_rfl
theorem aa3 (G:IE) (I:H6) (n:Nat) (ts:List Value) (m:Nat) (ps:List Value) (xb:Bool) (xn xd:BA):letI j:=(I (0:Int) n (af (3:Nat) n (ag (3:Nat) ts)) m (af (6:Nat) m (ag (6:Nat) ps)) xb xn xd false (ByteArray.mk #[]) (ByteArray.mk #[]) false (ByteArray.mk #[]) (ByteArray.mk #[]));
  (aD Tryz.prog ⟨aF,ar,A8 G I aq⟩ 10 10 52 [bH n ts m ps,w3 xb xn xd]=(bif au (3:Nat) n (ag (3:Nat) ts)&&au (6:Nat) m (ag (6:Nat) ps)&&G (0:Int) n (af (3:Nat) n (ag (3:Nat) ts)) m (af (6:Nat) m (ag (6:Nat) ps)) xb xn xd false (ByteArray.mk #[]) (ByteArray.mk #[]) false (ByteArray.mk #[]) (ByteArray.mk #[]) then some (.agg [(.val (.bool (j.snd.fst))),(.val (.string (j.snd.snd.fst))),(.val (.string (j.snd.snd.snd.fst))),(.val (.bool (j.snd.snd.snd.snd.fst))),(.val (.string (j.snd.snd.snd.snd.snd.fst))),(.val (.string (j.snd.snd.snd.snd.snd.snd)))]) else none)):=by kernel_rfl
theorem VR:Entry Tryz.prog 52 (rD cC ad):=by
 refine dI (by kernel_rfl) (fun args r h=> ?_)
 unfold rD at h
 split at h
 ·rename_i fl n f O m g xb xn xd
  simp only [Option.some.injEq,Prod.mk.injEq,Bool.and_eq_true] at h
  obtain ⟨⟨⟨S,U⟩,Z⟩,rfl⟩:=h
  have I:ba [.agg [.lst fl 27 n f, .lst O 35 m g], .agg [.val (.bool xb), .val (.string xn), .val (.string xd)]] [bH n (af 3 n f) m (af 6 m g),w3 xb xn xd]:=ba.cons (fE S U) (ba.refl _)
  have l1:=bP 3 n f
  have l2:=bP 6 m g
  generalize af 3 n f=ts at*
  generalize af 6 m g=ps at*
  obtain ⟨j,J⟩:=MR (show mM n ts m ps xn xd=true from Z)
  obtain rfl:=j.eq
  have a6:=j.pos
  have a5:=j.ts.ai
  obtain ⟨a2,a3,a4⟩:=vq ts (ad.qv xb xn xd) n
  by_cases M:cB ts (ad.qv xb xn xd) n=n
  ·have G:uE 0 n ts n ps xb xn xd false (ByteArray.mk #[]) (ByteArray.mk #[]) false (ByteArray.mk #[]) (ByteArray.mk #[]):= ⟨rfl,rfl,j,J,M⟩
   have a0:=yi (j.dh (n - 1) (by omega))
   have ab:=Bs (j.dh (n - 1) (by omega)) (j.can (n - 1) (by omega))
   have N:(n:Int) - 1=((n - 1:Nat):Int):=by omega
   have p1:∀ c:Nat→Rat,bq n ts c (ad.qv xb xn xd)=c (n - 1):=fun c=>by
    unfold bq
    rw [M,if_neg (show ¬ n=0 by omega),if_pos rfl]
   refine ⟨⟨aF,ar,A7 xf qY aq⟩,10,10,_,_,aH _,(Qt aB.none).ok, ?_,I,bu.refl _⟩
   rw [aa2,bc l1,bc l2,bn,bn,Ub _ _ _ _ _ _ _ _ _ _ _ _ _ _ G]
   simp only [N,Int.toNat_natCast,Nat.zero_add,a0]
   rw [aO (z:=((n - 1:Nat):Int)) (by omega),dT (show (0:Int)≤((n - 1:Nat):Int) by omega),dT (show ((n - 1:Nat):Int) < (n:Int) by omega)]
   show some _=some (ad.pair (bq n ts (px ps) (ad.qv xb xn xd)) (bq n ts (py ps) (ad.qv xb xn xd)))
   rw [p1,p1]
   exact congrArg some ab
  ·have G:uF 0 n ts n ps xb xn xd false (ByteArray.mk #[]) (ByteArray.mk #[]) false (ByteArray.mk #[]) (ByteArray.mk #[]):= ⟨rfl,rfl,j,J,by omega⟩
   have a1:=(MA _ _ _ _ _ _ _ _ _ _ _ _ _ _ G).2
   refine ⟨⟨aF,ar,A8 xg dA aq⟩,10,10,_,_,aH _,(Qu aB.none).ok, ?_,I,bu.refl _⟩
   rw [aa3,bc l1,bc l2,bn,bn,Uc _ _ _ _ _ _ _ _ _ _ _ _ _ _ G,show (dA 0 n ts n ps xb xn xd false (ByteArray.mk #[]) (ByteArray.mk #[]) false (ByteArray.mk #[]) (ByteArray.mk #[])).2=_ from a1]
   rfl
 ·cases h
def vV (G:Cg) (V:Vg) (j:Qg):FuncId→TF:=an 19 (eE G) (an 51 (jb j fun b n d=> .val (.int .i64 (j.ck b n d))) (an 52 (rD V j) aF))
theorem PG:bb Tryz.prog (vV aW cC ad):=(((aH _).add VR).add xy).add qo
theorem ZY (J:Cg) (V:Vg) (j:Qg) (n:Nat) (ts:List Value) (m:Nat) (ps:List Value) (xb:Bool) (xn xd:BA):letI G:=(af (3:Nat) n (ag (3:Nat) ts));letI I:=(af (6:Nat) m (ag (6:Nat) ps));
  (aD Tryz.prog ⟨vV J V j,ar,aq⟩ 10 10 13 [bH n ts m ps,w3 xb xn xd]=(bif au (3:Nat) n (ag (3:Nat) ts)&&au (6:Nat) m (ag (6:Nat) ps)&&J.ko n G m I then (bif !decide (J.ck n G m I=(0:Int)) then some (.tup [(.agg [(.val (.bool false)),(.val (.string (ByteArray.mk #[]))),(.val (.string (ByteArray.mk #[]))),(.val (.bool false)),(.val (.string (ByteArray.mk #[]))),(.val (.string (ByteArray.mk #[])))]),(.val (.int .i64 1))]) else (bif j.aL xn xd then (bif !decide (j.ck xb xn xd=(0:Int)) then some (.tup [(.agg [(.val (.bool false)),(.val (.string (ByteArray.mk #[]))),(.val (.string (ByteArray.mk #[]))),(.val (.bool false)),(.val (.string (ByteArray.mk #[]))),(.val (.string (ByteArray.mk #[])))]),(.val (.int .i64 1))]) else (bif au (3:Nat) n (ag (3:Nat) ts)&&au (6:Nat) m (ag (6:Nat) ps)&&V.pk n G m I xn xd then some (.tup [(.agg [(.val (.bool (j.qn (V.nM n G I (j.qv xb xn xd))))),(.val (.string (j.qs (V.nM n G I (j.qv xb xn xd))))),(.val (.string (j.qd (V.nM n G I (j.qv xb xn xd))))),(.val (.bool (j.qn (V.nN n G I (j.qv xb xn xd))))),(.val (.string (j.qs (V.nN n G I (j.qv xb xn xd))))),(.val (.string (j.qd (V.nN n G I (j.qv xb xn xd)))))]),(.val (.int .i64 0))]) else none)) else none)) else none)):=by kernel_rfl
theorem Z0 (n:Nat) (ts:List Value) (m:Nat) (ps:List Value) (xb:Bool) (xn xd:BA) (l1:ts.length=n*3) (l2:ps.length=m*6) (G:cw.ak n ts m ps xn xd=true):
  aD Tryz.prog ⟨vV aW cC ad,ar,aq⟩ 10 10 13 [bH n ts m ps,w3 xb xn xd]=some (.tup [ad.pair (cw.ax n ts m ps xb xn xd) (cw.ay n ts m ps xb xn xd), .val (.int .i64 (cw.ae n ts m ps xb xn xd))]):=by
 have G:(cW n ts m ps&&bo xn xd)=true:=G
 rw [Bool.and_eq_true] at G
 obtain ⟨k1,S⟩:=G
 rw [ZY,bc l1,bc l2,bn,bn,show aW.ko n ts m ps=true from k1,cz S]
 by_cases h:ia n ts m ps xb xn xd=0
 ·have M:cw.ax n ts m ps xb xn xd=bq n ts (px ps) (ad.qv xb xn xd):=if_pos h
  have N:cw.ay n ts m ps xb xn xd=bq n ts (py ps) (ad.qv xb xn xd):=if_pos h
  have J:cw.ae n ts m ps xb xn xd=0:=h
  rw [M,N,J]
  unfold ia at h
  split at h
  ·rename_i j
   have U:cC.pk n ts m ps xn xd=true:=by
    show mM n ts m ps xn xd=true
    unfold mM
    rw [@decide_eq_true _ (Classical.propDecidable _) (tQ k1 j.1),S];rfl
   rw [dT (show aW.ck n ts m ps=0 from j.1),dT j.2,U];rfl
  ·cases h
 ·have M:cw.ax n ts m ps xb xn xd=0:=if_neg h
  have N:cw.ay n ts m ps xb xn xd=0:=if_neg h
  have J:cw.ae n ts m ps xb xn xd=1:=by
   show ia n ts m ps xb xn xd=1
   unfold ia at h ⊢
   split <;> rename_i j
   ·rw [if_pos j] at h;exact absurd rfl h
   ·rfl
  rw [M,N,J,L5]
  by_cases I:bJ n ts m ps=0
  ·by_cases O:ad.ck xb xn xd=0
   ·exact absurd (by unfold ia;rw [if_pos ⟨I,O⟩]) h
   ·rw [dT (show aW.ck n ts m ps=0 from I),dF O];rfl
  ·rw [dF (show ¬ aW.ck n ts m ps=0 from I)];rfl
theorem BY:Entry Tryz.prog 13 (rA cw ad):=by
 refine dI (by kernel_rfl) (fun args r h=> ?_)
 unfold rA at h
 split at h
 ·rename_i fl n f J m g xb xn xd
  simp only [Option.some.injEq,Prod.mk.injEq,Bool.and_eq_true] at h
  obtain ⟨⟨⟨j,G⟩,I⟩,rfl⟩:=h
  exact ⟨⟨vV aW cC ad,ar,aq⟩,10,10,_,_,PG,aK,Z0 n _ m _ xb xn xd (bP 3 n f) (bP 6 m g) I,ba.cons (fE j G) (ba.refl _),bu.refl _⟩
 ·cases h
end
end Go.Proofs.YtamcpiicmfielaaGreat.L
namespace Go.Proofs.YtamcpiicmfielaaGreat.L
open Go Go.V Go.RowKit Go.Proofs.YtamcpiicmfielaaGreat.Sp
open Go.Proofs (Tryz.prog)
noncomputable section
structure Eg where
 ea:Nat→List Value→Nat→List Value→Bool→BA→BA→Bool
def th (n:Nat) (ts:List Value) (m:Nat) (ps:List Value) (xb:Bool) (xn xd:BA):Bool:=cW n ts m ps&&bo xn xd&& !(decide (bJ n ts m ps=0)&&decide (ad.ck xb xn xd=0))
def nw:Eg:= ⟨th⟩
def lZ (D:Eg):TF:=fun args=>match args with
 | [.agg [.lst _ 27 n f, .lst _ 35 m g], .agg [.val (.bool xb), .val (.string xn), .val (.string xd)]]=>some (au 3 n f&&au 6 m g&&D.ea n (af 3 n f) m (af 6 m g) xb xn xd, .tup [.agg [.val (.slice none 0 0), .val (.slice none 0 0)], .val (.int .i64 1)])
 | _=>none
theorem xE {g:FuncId} (O:fH Tryz.prog g=true) (H:∀ (n:Nat) (ts:List Value) (m:Nat) (ps:List Value) (xb:Bool) (xn xd:BA),ts.length=n*3→ps.length=m*6→cW n ts m ps=true→bo xn xd=true→(¬ bJ n ts m ps=0∨bJ n ts m ps=0∧¬ ad.ck xb xn xd=0)→∃ E:Env,bb Tryz.prog E.C∧cL Tryz.prog E∧aD Tryz.prog E 10 10 g [bH n ts m ps,w3 xb xn xd]=some (.tup [.agg [.val (.slice none 0 0), .val (.slice none 0 0)], .val (.int .i64 1)])):Entry Tryz.prog g (lZ nw):=by
 refine dI O (fun args r h=> ?_)
 unfold lZ at h
 split at h
 ·rename_i fl n f a0 m j xb xn xd
  simp only [Option.some.injEq,Prod.mk.injEq,Bool.and_eq_true] at h
  obtain ⟨⟨⟨M,N⟩,G⟩,rfl⟩:=h
  have G:th n (af 3 n f) m (af 6 m j) xb xn xd=true:=G
  unfold th at G
  rw [Bool.and_eq_true,Bool.and_eq_true,Bool.not_eq_true',Bool.and_eq_false_iff,decide_eq_false_iff_not,decide_eq_false_iff_not] at G
  obtain ⟨⟨k1,S⟩,J⟩:=G
  have J:¬ bJ n (af 3 n f) m (af 6 m j)=0∨bJ n (af 3 n f) m (af 6 m j)=0∧¬ ad.ck xb xn xd=0:=by
   by_cases I:bJ n (af 3 n f) m (af 6 m j)=0
   ·exact .inr ⟨I,J.elim (fun h=>absurd I h) id⟩
   ·exact .inl I
  obtain ⟨E,U,Z,ab⟩:=H n _ m _ xb xn xd (bP 3 n f) (bP 6 m j) k1 S J
  exact ⟨E,10,10,_,_,U,Z,ab,ba.cons (fE M N) (ba.refl _),bu.refl _⟩
 ·cases h
def zW (C:Cg) (j:Qg):FuncId→TF:=an 18 (eE C) (an 49 (ma j) (an 27 O0 aF))
theorem PO:bb Tryz.prog (zW aW ad):=(((aH _).add Vy).add oz).add nv
theorem acM (C:Cg) (j:Qg) (n:Nat) (ts:List Value) (m:Nat) (ps:List Value) (xb:Bool) (xn xd:BA):aD Tryz.prog ⟨zW C j,ar,aq⟩ 10 10 16 [bH n ts m ps,w3 xb xn xd]=
  (bif au (3:Nat) n (ag (3:Nat) ts)&&au (6:Nat) m (ag (6:Nat) ps)&&C.ko n (af (3:Nat) n (ag (3:Nat) ts)) m (af (6:Nat) m (ag (6:Nat) ps)) then (bif !decide (C.ck n (af (3:Nat) n (ag (3:Nat) ts)) m (af (6:Nat) m (ag (6:Nat) ps))=(0:Int)) then some (.tup [(.agg [(.val (.slice .none 0 0)),(.val (.slice .none 0 0))]),(.val (.int .i64 1))]) else (bif j.ok xn xd then (bif !decide (j.ck xb xn xd=(0:Int)) then some (.tup [(.agg [(.val (.slice .none 0 0)),(.val (.slice .none 0 0))]),(.val (.int .i64 1))]) else none) else none)) else none):=by kernel_rfl
theorem V7:Entry Tryz.prog 16 (lZ nw):=xE (by kernel_rfl) fun n ts m ps xb xn xd l1 l2 k1 G I=>by
 refine ⟨⟨zW aW ad,ar,aq⟩,PO,aK, ?_⟩
 rw [acM,bc l1,bc l2,bn,bn,show aW.ko n ts m ps=true from k1,cy G]
 rcases I with h | ⟨h,j⟩
 ·rw [dF (show ¬ aW.ck n ts m ps=0 from h)];rfl
 ·rw [dT (show aW.ck n ts m ps=0 from h),dF j];rfl
theorem Vk:Entry Tryz.prog 14 (lZ nw):=xE (by kernel_rfl) fun n ts m ps xb xn xd l1 l2 k1 G I=>by
 refine ⟨⟨rW aW ad,ar,r8 qf iJ aq⟩,G0,(IT aB.none).ok, ?_⟩
 rw [J1,bc l1,bc l2,bn,bn,show aW.ko n ts m ps=true from k1,cy G]
 rcases I with h | ⟨h,j⟩
 ·rw [dF (show ¬ aW.ck n ts m ps=0 from h)];rfl
 ·rw [dT (show aW.ck n ts m ps=0 from h),dF j];rfl
theorem v7:bb Tryz.prog (pW aW ad):=(((aH _).add VS).add xy).add qo
theorem VT:Entry Tryz.prog 17 (lZ nw):=xE (by kernel_rfl) fun n ts m ps xb xn xd l1 l2 k1 G I=>by
 refine ⟨⟨pW aW ad,ar,r9 qi iK aq⟩,v7,(Bc aB.none).ok, ?_⟩
 rw [Es,bc l1,bc l2,bn,bn,show aW.ko n ts m ps=true from k1,cz G]
 rcases I with h | ⟨h,j⟩
 ·rw [dF (show ¬ aW.ck n ts m ps=0 from h)];rfl
 ·rw [dT (show aW.ck n ts m ps=0 from h),dF j];rfl
theorem VH:Entry Tryz.prog 54 (Fs ik ad):=by
 refine dI (by kernel_rfl) (fun args r h=> ?_)
 unfold Fs at h
 split at h
 ·rename_i fl n f I m g xb xn xd
  simp only [Option.some.injEq,Prod.mk.injEq,Bool.and_eq_true] at h
  obtain ⟨⟨⟨J,M⟩,N⟩,rfl⟩:=h
  have O:ba [.agg [.lst fl 27 n f, .lst I 35 m g], .agg [.val (.bool xb), .val (.string xn), .val (.string xd)]] [bH n (af 3 n f) m (af 6 m g),w3 xb xn xd]:=ba.cons (fE J M) (ba.refl _)
  have l1:=bP 3 n f
  have l2:=bP 6 m g
  generalize af 3 n f=ts at*
  generalize af 6 m g=ps at*
  obtain ⟨k1,Z,ab,a3⟩:=ow (show ll n ts m ps xb xn xd=true from N)
  obtain ⟨rfl,a0,a1,_⟩:=nm ab
  obtain ⟨U,a2⟩:=nE k1
  have G:tZ 0 n ts n ps xb xn xd n (ag 6 ps):= ⟨rfl,a0,a1,U,Z⟩
  have S:=(Mg _ _ _ _ _ _ _ _ _ _ G).2
  refine ⟨⟨aF,ar,AR wV kQ aq⟩,10,10,_,_,aH _,(P5 aB.none).ok, ?_,O,bu.refl _⟩
  rw [Z8,bc l1,bc l2,bn,bn,TK _ _ _ _ _ _ _ _ _ _ G,show (kQ 0 n ts n ps xb xn xd n (ag 6 ps)).2=(n,aP n (fun j=>qt ts j+ad.qv xb xn xd)) from S,ov,dT (show 0+n*3≤(aC.vals (aP n (fun j=>qt ts j+ad.qv xb xn xd))).len from by show _≤(aP _ _).length;rw [eU];omega)]
  rfl
 ·cases h
theorem G7:bb Tryz.prog (vX aW ik ad):=v7.add VH
theorem VG:Entry Tryz.prog 15 (lZ nw):=xE (by kernel_rfl) fun n ts m ps xb xn xd l1 l2 k1 G I=>by
 refine ⟨⟨vX aW ik ad,ar,aq⟩,G7,aK, ?_⟩
 rw [MZ,bc l1,bc l2,bn,bn,show aW.ko n ts m ps=true from k1,cz G]
 rcases I with h | ⟨h,j⟩
 ·rw [dF (show ¬ aW.ck n ts m ps=0 from h)];rfl
 ·rw [dT (show aW.ck n ts m ps=0 from h),dF j];rfl
theorem Ke:Entry Tryz.prog 15 (nW ik ad):=by
 refine dI (by kernel_rfl) (fun args r h=> ?_)
 unfold nW at h
 split at h
 ·rename_i fl n f O m g xb xn xd
  simp only [Option.some.injEq,Prod.mk.injEq,Bool.and_eq_true] at h
  obtain ⟨⟨⟨G,I⟩,j⟩,rfl⟩:=h
  refine ⟨⟨vX aW ik ad,ar,aq⟩,10,10,_,_,G7,aK, ?_,ba.cons (fE G I) (ba.refl _),bu.refl _⟩
  have l1:=bP 3 n f
  have l2:=bP 6 m g
  generalize af 3 n f=ts at*
  generalize af 6 m g=ps at*
  obtain ⟨k1,J,M,N⟩:=ow (show ll n ts m ps xb xn xd=true from j)
  rw [MZ,bc l1,bc l2,bn,bn,show aW.ko n ts m ps=true from k1,dT (show aW.ck n ts m ps=0 from M),cz J,dT N,j]
  rfl
 ·cases h
theorem VU:Entry Tryz.prog 17 (rI k9):=by
 refine dI (by kernel_rfl) (fun args r h=> ?_)
 unfold rI at h
 split at h
 ·rename_i fl n f Z m g xb xn xd
  simp only [Option.some.injEq,Prod.mk.injEq,Bool.and_eq_true] at h
  obtain ⟨⟨⟨G,I⟩,J⟩,rfl⟩:=h
  refine ⟨⟨pW aW ad,ar,r9 qi iK aq⟩,10,10,_,_,v7,(Bc aB.none).ok, ?_,ba.cons (fE G I) (ba.refl _),bu.refl _⟩
  have l1:=bP 3 n f
  have l2:=bP 6 m g
  generalize af 3 n f=ts at*
  generalize af 6 m g=ps at*
  have j:pb n ts m ps xb xn xd=true:=J
  unfold pb at j
  rw [Bool.and_eq_true,Bool.not_eq_true',decide_eq_false_iff_not] at j
  obtain ⟨j,M⟩:=j
  obtain ⟨k1,O,S,U⟩:=ow j
  have N:ad.sq (ad.qv xb xn xd)≤0:=yO.2 M
  rw [Es,bc l1,bc l2,bn,bn,show aW.ko n ts m ps=true from k1,dT (show aW.ck n ts m ps=0 from S),cz O,dT U,dT N]
  rfl
 ·cases h
theorem VW:Entry Tryz.prog 17 (rJ k9 ad):=by
 refine dI (by kernel_rfl) (fun args r h=> ?_)
 unfold rJ at h
 split at h
 ·rename_i fl n f a3 m g xb xn xd
  simp only [Option.some.injEq,Prod.mk.injEq,Bool.and_eq_true] at h
  obtain ⟨⟨⟨M,N⟩,O⟩,rfl⟩:=h
  refine ⟨⟨pW aW ad,ar,r9 qi iK aq⟩,10,10,_,_,v7,(Bc aB.none).ok, ?_,ba.cons (fE M N) (ba.refl _),bu.refl _⟩
  have l1:=bP 3 n f
  have l2:=bP 6 m g
  generalize af 3 n f=ts at*
  generalize af 6 m g=ps at*
  have j:pD n ts m ps xb xn xd=true:=O
  unfold pD at j
  rw [Bool.and_eq_true,decide_eq_true_eq] at j
  obtain ⟨j,U⟩:=j
  obtain ⟨k1,I,J,a0⟩:=ow j
  obtain ⟨rfl,a1,a2,_⟩:=nm J
  obtain ⟨ab,a4⟩:=nE k1
  have Z:¬ ad.sq (ad.qv xb xn xd)≤0:=fun h=>yO.1 h U
  have G:uW 0 0 n ts n ps xb xn xd n (ag 6 ps):= ⟨rfl,a1,a2,ab,I⟩
  have S:=(MQ _ _ _ _ _ _ _ _ _ _ _ G).2
  rw [Es,bc l1,bc l2,bn,bn,show aW.ko n ts n ps=true from k1,dT (show aW.ck n ts n ps=0 from J),cz I,dT a0,dF Z,Uw _ _ _ _ _ _ _ _ _ _ _ G,show (iK 0 0 n ts n ps xb xn xd n (ag 6 ps)).2=(n,aP n (aY ts (ad.qv xb xn xd))) from S,ov,dT (show 0+n*3≤(aC.vals (aP n (aY ts (ad.qv xb xn xd)))).len from by show _≤(aP _ _).length;rw [eU];omega)]
  rfl
 ·cases h
end
end Go.Proofs.YtamcpiicmfielaaGreat.L
namespace Go.Proofs.YtamcpiicmfielaaGreat.L
open Go Go.V Go.ChangeShapes Go.WideShapes Go.RowKit Go.Deep Go.Joins Go.Proofs.YtamcpiicmfielaaGreat.Sp
open Go.Proofs (Tryz.prog)
noncomputable section
section
variable {H : Type} {enc : TypeId × Value → H} {w w' : World}
theorem Jr {t:TypeId} {v:Value} {d:DataW H} {ps:List MemPlace} (I:Tryz.prog.readableRec t=true) (J:t < Tryz.prog.types.size) (h:DataW.Trod enc Tryz.prog w 0 (fun _=>true) true t v d ps) (j:Below w.heap.size w w'):
  DataW.Trod enc Tryz.prog w' 0 (fun b=>decide (b < w.heap.size)) true t v d ps:=
 Below.trod (by kernel_rfl) I J h j (fun x M=>by obtain ⟨n,G⟩:=h;exact DataW.trod_lt n _ _ _ G x M)
theorem NX {t e:TypeId} {a2:Nat} {v:Value} {x:DataW H×List MemPlace} (b4:Tryz.prog.underlying t=some (.slice e)) (a5:0 < Tryz.prog.cellsOf e) (h:DataW.trod enc Tryz.prog w 0 (fun _=>true) true a2 t [v]=some x):
  ∃ (n:Nat) (f:Nat→Nat→Value),n≤9223372036854775807∧(AV.lst false e n (fun j q=> .val (f j q))).Rel Tryz.prog cd (fun _=>False) w bh v∧∀ j,j < n→∃ m y,DataW.trod enc Tryz.prog w 0 (fun _=>true) true m e ((List.range (Tryz.prog.cellsOf e)).map (f j))=some y:=by
 rcases open_slice b4 h with ⟨M,_⟩ | ⟨a,len,cap,m,n,D,S,M,b7,a0,b0,b1,_,b5⟩
 ·cases M
  exact ⟨0,fun _ _=>undef,Nat.zero_le _, ⟨none,0,rfl,Nat.le_refl _,(fun h=>by cases h), .inl rfl⟩,fun j G=>by omega⟩
 ·cases M
  have ch:m=cap:=by rw [b1];rfl
  have ct:cap≤9223372036854775807:=b0
  by_cases bD:len=0
  ·subst bD
   exact ⟨0,fun _ _=>undef,Nat.zero_le _, ⟨some a,_,rfl,a0,(fun h=>by cases h), .inl rfl⟩,fun j G=>by omega⟩
  ·obtain ⟨cs,Z⟩:=choose_lt (α:=List Value) (p:=fun i l=>w.cells? 0 (a.add (i*Tryz.prog.cellsOf e)) (Tryz.prog.cellsOf e)=some l∧DataW.trod enc Tryz.prog w 0 (fun _=>true) true n e l=some (D i,S i)) (n:=len) (fun i ab=>b5 i (by omega))
   have N:∀ j,j < len→(cs j).length=Tryz.prog.cellsOf e∧∀ q,q < Tryz.prog.cellsOf e→w.cell? (a.add (j*Tryz.prog.cellsOf e+q))=some ((cs j).getD q undef):=fun j G=>by
    obtain ⟨_,a3,a4⟩:=World.cells?_some (Z j G).1
    refine ⟨a3,fun q b2=> ?_⟩
    have:=a4 q b2
    rw [add_add] at this
    rw [this,List.getD_eq_getElem?_getD,List.getElem?_eq_getElem (show q < (cs j).length by omega)];rfl
   have I:=(N 0 (by omega)).2 0 a5
   have O:a.spot=none:=by
    have:a.add (0*Tryz.prog.cellsOf e+0)=a:=by rw [Nat.zero_mul];rfl
    rw [this] at I
    exact World.cell?_spot I
   obtain ⟨b,o,b6⟩:=a
   have O:b6=none:=O
   subst O
   have U:∀ i,(⟨b,o,none⟩:Addr).add i= ⟨b,o+i,none⟩:=fun i=>by
    unfold Addr.add
    split
    ·rename_i h;subst h;rfl
    ·rfl
   rw [U] at I
   have a7:∃ c ty fr,w.heap[b]? =some (.cells c ty fr):=by
    unfold World.cell? at I
    simp only at I
    split at I
    ·rename_i c ty fr J;exact ⟨c,ty,fr,J⟩
    ·cases I
   obtain ⟨c,ty,fr,J⟩:=a7
   have a6:∀ i y,w.cell? ⟨b,i,none⟩=some y→c[i]? =some y:=fun i y h=>by
    unfold World.cell? at h
    simp only [J] at h
    exact h
   have b3:(AV.lst false e len (fun j q=> .val ((cs j).getD q undef))).Rel Tryz.prog cd (fun _=>False) w bh (.slice (some ⟨b,o,none⟩) len cap):=by
    refine ⟨some ⟨b,o,none⟩,cap,rfl,a0,(fun h=>by cases h), .inr ⟨b,o,c,ty,fr,rfl,(fun h=>h),J,fun j k G bx=> ⟨(cs j).getD k undef, ?_,rfl⟩⟩⟩
    have:=(N j G).2 k bx
    rw [U] at this
    rw [Nat.add_assoc]
    exact a6 _ _ this
   refine ⟨len,fun j q=>(cs j).getD q undef,by omega,b3,fun j G=> ⟨n,(D j,S j), ?_⟩⟩
   have a1:(List.range (Tryz.prog.cellsOf e)).map (fun q=>(cs j).getD q undef)=cs j:=by
    have b8:=(N j G).1
    apply List.ext_getElem?
    intro i
    by_cases ab:i < Tryz.prog.cellsOf e
    ·rw [List.getElem?_map,List.getElem?_range ab,List.getElem?_eq_getElem (show i < (cs j).length by omega),Option.map_some,List.getD_eq_getElem?_getD,List.getElem?_eq_getElem (show i < (cs j).length by omega)];rfl
    ·rw [List.getElem?_eq_none (by simp;omega),List.getElem?_eq_none (by omega)]
   rw [a1]
   exact (Z j G).2
theorem Bx {N:Nat} {a b c:Value} {x:DataW H×List MemPlace} (h:DataW.trod enc Tryz.prog w 0 (fun _=>true) true N 27 [a,b,c]=some x):aS a b c=true:=by
 obtain ⟨a1,a2,a3,n,_,_,j,G,I⟩:=trod_struct3 (Tryz.underlying27) h
 have J:Tryz.prog.cellsOf 4=1:=by kernel_rfl
 have M:Tryz.prog.cellsOf 9=1:=by kernel_rfl
 simp only [J,M] at j G I
 obtain ⟨Z,O,_⟩:=DataW.trod_bool (show Tryz.prog.underlying _=some .bool from by kernel_rfl) j
 obtain ⟨ab,S,_⟩:=DataW.trod_string (show Tryz.prog.underlying _=some .string from by kernel_rfl) G
 obtain ⟨a0,U,_⟩:=DataW.trod_string (show Tryz.prog.underlying _=some .string from by kernel_rfl) I
 cases O;cases S;cases U
 rfl
theorem Sr {J:Nat} {a b c d e f:Value} {x:DataW H×List MemPlace} (h:DataW.trod enc Tryz.prog w 0 (fun _=>true) true J 35 [a,b,c,d,e,f]=some x):aS a b c=true∧aS d e f=true:=by
 obtain ⟨M,N,n,_,_,j,G⟩:=trod_struct2 (Tryz.underlying35) h
 have I:Tryz.prog.cellsOf 27=3:=by kernel_rfl
 simp only [I] at j G
 exact ⟨Bx j,Bx G⟩
theorem mP {l:List Value} (n:Nat) (f:Nat→Nat→Value) {j q:Nat} (sz:Nat) (G:j < n) (I:q < sz):(af sz n (fun j q=> .val (f j q))).getD (j*sz+q) undef=f j q:=by
 have h:=NA (sz:=sz) (m:=n) (f:=fun j q=> .val (f j q)) (List.all_eq_true.2 fun i _=>rfl) G I
 exact (AV.val.inj h).symm
theorem QV {M:Nat} {v:Value} {x:DataW H×List MemPlace} (h:DataW.trod enc Tryz.prog w 0 (fun _=>true) true M 23 [v]=some x):
  ∃ (n:Nat) (ps:List Value),ps.length=n*6∧jM n ps=true∧(AV.lst false 35 n (ag 6 ps)).Rel Tryz.prog cd (fun _=>False) w bh v:=by
 have I:Tryz.prog.cellsOf 35=6:=by kernel_rfl
 obtain ⟨n,f,N,O,S⟩:=NX (e:=35) (by kernel_rfl) (by rw [I];decide) h
 refine ⟨n,af 6 n (fun j q=> .val (f j q)),bP _ _ _, ?_,kU (by kernel_rfl) (List.all_eq_true.2 fun i _=>rfl) O⟩
 unfold jM
 rw [Bool.and_eq_true,decide_eq_true_eq,List.all_eq_true]
 refine ⟨N,fun j G=> ?_⟩
 rw [List.mem_range] at G
 obtain ⟨m,y,J⟩:=S j G
 rw [I] at J
 obtain ⟨k1,U⟩:=Sr (show DataW.trod enc Tryz.prog w 0 (fun _=>true) true m 35 [f j 0,f j 1,f j 2,f j 3,f j 4,f j 5]=some y from J)
 unfold fi
 rw [mP (l:= []) n f 6 G (by decide),mP (l:= []) n f 6 G (by decide),mP (l:= []) n f 6 G (by decide),mP (l:= []) n f 6 G (by decide),mP (l:= []) n f 6 G (by decide),mP (l:= []) n f 6 G (by decide),k1,U];rfl
theorem QX {M:Nat} {v:Value} {x:DataW H×List MemPlace} (h:DataW.trod enc Tryz.prog w 0 (fun _=>true) true M 22 [v]=some x):
  ∃ (n:Nat) (ts:List Value),ts.length=n*3∧fI n ts=true∧(AV.lst false 27 n (ag 3 ts)).Rel Tryz.prog cd (fun _=>False) w bh v:=by
 have I:Tryz.prog.cellsOf 27=3:=by kernel_rfl
 obtain ⟨n,f,N,O,S⟩:=NX (e:=27) (by kernel_rfl) (by rw [I];decide) h
 refine ⟨n,af 3 n (fun j q=> .val (f j q)),bP _ _ _, ?_,kU (by kernel_rfl) (List.all_eq_true.2 fun i _=>rfl) O⟩
 unfold fI
 rw [Bool.and_eq_true,decide_eq_true_eq,List.all_eq_true]
 refine ⟨N,fun j G=> ?_⟩
 rw [List.mem_range] at G
 obtain ⟨m,y,J⟩:=S j G
 rw [I] at J
 have k1:=Bx (show DataW.trod enc Tryz.prog w 0 (fun _=>true) true m 27 [f j 0,f j 1,f j 2]=some y from J)
 unfold cR
 rw [mP (l:= []) n f 3 G (by decide),mP (l:= []) n f 3 G (by decide),mP (l:= []) n f 3 G (by decide),k1]
theorem QY {cs:Array Value} {d:DataW H} {p:List MemPlace} (h:DataW.Trod enc Tryz.prog w 0 (fun _=>true) true 25 (.agg cs) d p):
  ∃ (n:Nat) (ts:List Value) (m:Nat) (ps:List Value),ts.length=n*3∧fI n ts=true∧ps.length=m*6∧jM m ps=true∧(AV.agg [.lst false 27 n (ag 3 ts), .lst false 35 m (ag 6 ps)]).Rel Tryz.prog cd (fun _=>False) w bh (.agg cs):=by
 obtain ⟨k,G⟩:=h
 have G:DataW.trod enc Tryz.prog w 0 (fun _=>true) true k 25 cs.toList=some (d,p):=G
 obtain ⟨a5,a6,n,_,j,I,J⟩:=trod_struct2 (Tryz.underlying25) G
 have O:Tryz.prog.cellsOf 25=2:=by kernel_rfl
 have M:Tryz.prog.cellsOf 22=1:=by kernel_rfl
 have N:Tryz.prog.cellsOf 23=1:=by kernel_rfl
 rw [O] at j
 obtain ⟨l⟩:=cs
 have S:∃ a b,l= [a,b]:=by
  cases l with
  | nil=>cases j
  | cons a l=>cases l with
   | nil=>cases j
   | cons b l=>cases l with
    | nil=>exact ⟨a,b,rfl⟩
    | cons c l=>exact absurd j (by simp)
 obtain ⟨a,b,rfl⟩:=S
 simp only [M,N] at I J
 obtain ⟨Z,ts,ab,a0,a1⟩:=QX I
 obtain ⟨U,ps,a2,a3,a4⟩:=QV J
 exact ⟨Z,ts,U,ps,ab,a0,a2,a3,_,rfl,a,_,rfl,a1,b,_,rfl,a4,rfl⟩
end
end
end Go.Proofs.YtamcpiicmfielaaGreat.L
namespace Go.Proofs.YtamcpiicmfielaaGreat.L
open Go Go.V Go.RowKit Go.Proofs.YtamcpiicmfielaaGreat.Sp
open Go.Proofs (Tryz.prog)
noncomputable section
def FI (j:Sm):TF:=fun args=>match FJ args with
 | some r=>some r
 | none=>FK j args
theorem B5:Entry Tryz.prog 20 (FI kW):=by
 intro args r h
 unfold FI at h
 split at h
 ·rename_i G j
  cases h
  exact V3 args r j
 ·exact V4 args r h
def zQ (G:Gg) (C:Cg) (K:Hg) (A:Ag) (P:Pg) (I:Sm) (j:Qg) (E:FuncId→TF):FuncId→TF:=an 7 (Fw G) (an 8 (yZ K) (an 9 Fq (an 10 (rH C P j) (an 11 (rH C P j) (an 12 (rA A j) (an 13 (rA A j) (an 18 (eE C) (an 19 (eE C) (an 20 (FI I) E)))))))))
def Ha (G:Gg) (C:Cg) (K:Hg) (A:Ag) (P:Pg) (I:Sm) (D:Dg) (T:Tt) (j:Qg):FuncId→TF:=zQ G C K A P I j (an 14 (nW D j) (an 15 (nW D j) (an 16 (rJ T j) (an 17 (rJ T j) aF))))
def G9 (G:Gg) (C:Cg) (K:Hg) (A:Ag) (P:Pg) (I:Sm) (D:Dg) (T:Tt) (j:Qg):FuncId→TF:=zQ G C K A P I j (an 14 (nW D j) (an 15 (nW D j) (an 16 (rI T) (an 17 (rI T) aF))))
def G6 (j:Gg) (C:Cg) (K:Hg) (A:Ag) (P:Pg) (G:Sm) (R:Eg) (I:Qg):FuncId→TF:=zQ j C K A P G I (an 14 (lZ R) (an 15 (lZ R) (an 16 (lZ R) (an 17 (lZ R) aF))))
theorem aae (U:Gg) (C:Cg) (K:Hg) (A:Ag) (P:Pg) (Z:Sm) (D:Dg) (T:Tt) (j:Qg) (n:Nat) (ts:List Value) (m:Nat) (ps:List Value) (xb:Bool) (xn xd:BA):letI I:=(af (3:Nat) n (ag (3:Nat) ts));letI G:=(af (6:Nat) m (ag (6:Nat) ps));letI J:=(A.ax n I m G xb xn xd);letI M:=(A.ay n I m G xb xn xd);letI ab:=(aG (j.qs (P.sv n I m G)) (j.qs (P.sv n I m G))&&(aG (j.qd (P.sv n I m G)) (j.qd (P.sv n I m G))&&true));letI N:=(ag (3:Nat) (D.dt n I (j.qv xb xn xd)));letI O:=(ag (3:Nat) (T.st n I (j.qv xb xn xd)));letI S:=(af (6:Nat) m (ag (6:Nat) G));
  (aD Tryz.prog ⟨Ha U C K A P Z D T j,ar,aq⟩ 10 10 3 [bH n ts m ps,w3 xb xn xd]=(bif au (3:Nat) n (ag (3:Nat) ts)&&au (6:Nat) m (ag (6:Nat) ps)&&U.go n I m G then (bif U.gt n I m G then some (.val (.bool true)) else (bif K.gr xn xd then some (.val (.bool true)) else (bif au (3:Nat) n (ag (3:Nat) ts)&&au (6:Nat) m (ag (6:Nat) ps)&&C.ko n I m G then (bif au (3:Nat) n (ag (3:Nat) ts)&&au (6:Nat) m (ag (6:Nat) ps)&&C.ko n I m G then (bif au (3:Nat) n (ag (3:Nat) ts)&&au (6:Nat) m (ag (6:Nat) ps)&&A.ak n I m G xn xd then (bif au (3:Nat) n (ag (3:Nat) ts)&&au (6:Nat) m (ag (6:Nat) ps)&&A.ak n I m G xn xd then (bif au (3:Nat) n (ag (3:Nat) ts)&&au (6:Nat) m (ag (6:Nat) ps)&&D.dk n I m G xb xn xd then (bif au (3:Nat) n (ag (3:Nat) ts)&&au (6:Nat) m (ag (6:Nat) ps)&&D.dk n I m G xb xn xd then (bif au (3:Nat) n (ag (3:Nat) ts)&&au (6:Nat) m (ag (6:Nat) ps)&&T.sk n I m G xb xn xd then (bif au (3:Nat) n (ag (3:Nat) ts)&&au (6:Nat) m (ag (6:Nat) ps)&&T.sk n I m G xb xn xd then (bif au (3:Nat) n (ag (3:Nat) ts)&&au (6:Nat) m (ag (6:Nat) ps)&&C.ko n I m G then (bif au (3:Nat) n (ag (3:Nat) ts)&&au (6:Nat) m (ag (6:Nat) ps)&&C.ko n I m G then (bif decide (C.ck n I m G=C.ck n I m G) then (bif bif false then !(j.qn (P.sv n I m G)==j.qn (P.sv n I m G)&&ab) else j.qn (P.sv n I m G)==j.qn (P.sv n I m G)&&ab then (bif decide (P.se n I m G=P.se n I m G) then (bif bif false then !(j.qn J==j.qn J&&(aG (j.qs J) (j.qs J)&&(aG (j.qd J) (j.qd J)&&true))&&(j.qn M==j.qn M&&(aG (j.qs M) (j.qs M)&&(aG (j.qd M) (j.qd M)&&true))&&true)) else j.qn J==j.qn J&&(aG (j.qs J) (j.qs J)&&(aG (j.qd J) (j.qd J)&&true))&&(j.qn M==j.qn M&&(aG (j.qs M) (j.qs M)&&(aG (j.qd M) (j.qd M)&&true))&&true) then (bif decide (A.ae n I m G xb xn xd=A.ae n I m G xb xn xd) then (bif au (3:Nat) n N&&au (6:Nat) m (ag (6:Nat) G)&&(au (3:Nat) n N&&au (6:Nat) m (ag (6:Nat) G)&&Z.sm n (af (3:Nat) n N) m S n (af (3:Nat) n N) m S) then (bif au (3:Nat) n O&&au (6:Nat) m (ag (6:Nat) G)&&(au (3:Nat) n O&&au (6:Nat) m (ag (6:Nat) G)&&Z.sm n (af (3:Nat) n O) m S n (af (3:Nat) n O) m S) then some (.val (.bool true)) else none) else none) else some (.val (.bool false))) else some (.val (.bool false))) else some (.val (.bool false))) else some (.val (.bool false))) else some (.val (.bool false))) else none) else none) else none) else none) else none) else none) else none) else none) else none) else none))) else none)):=by kernel_rfl
theorem aad (O:Gg) (C:Cg) (K:Hg) (A:Ag) (P:Pg) (S:Sm) (D:Dg) (T:Tt) (j:Qg) (n:Nat) (ts:List Value) (m:Nat) (ps:List Value) (xb:Bool) (xn xd:BA):letI I:=(af (3:Nat) n (ag (3:Nat) ts));letI G:=(af (6:Nat) m (ag (6:Nat) ps));letI J:=(A.ax n I m G xb xn xd);letI M:=(A.ay n I m G xb xn xd);letI U:=(aG (j.qs (P.sv n I m G)) (j.qs (P.sv n I m G))&&(aG (j.qd (P.sv n I m G)) (j.qd (P.sv n I m G))&&true));letI N:=(ag (3:Nat) (D.dt n I (j.qv xb xn xd)));
  (aD Tryz.prog ⟨G9 O C K A P S D T j,ar,aq⟩ 10 10 3 [bH n ts m ps,w3 xb xn xd]=(bif au (3:Nat) n (ag (3:Nat) ts)&&au (6:Nat) m (ag (6:Nat) ps)&&O.go n I m G then (bif O.gt n I m G then some (.val (.bool true)) else (bif K.gr xn xd then some (.val (.bool true)) else (bif au (3:Nat) n (ag (3:Nat) ts)&&au (6:Nat) m (ag (6:Nat) ps)&&C.ko n I m G then (bif au (3:Nat) n (ag (3:Nat) ts)&&au (6:Nat) m (ag (6:Nat) ps)&&C.ko n I m G then (bif au (3:Nat) n (ag (3:Nat) ts)&&au (6:Nat) m (ag (6:Nat) ps)&&A.ak n I m G xn xd then (bif au (3:Nat) n (ag (3:Nat) ts)&&au (6:Nat) m (ag (6:Nat) ps)&&A.ak n I m G xn xd then (bif au (3:Nat) n (ag (3:Nat) ts)&&au (6:Nat) m (ag (6:Nat) ps)&&D.dk n I m G xb xn xd then (bif au (3:Nat) n (ag (3:Nat) ts)&&au (6:Nat) m (ag (6:Nat) ps)&&D.dk n I m G xb xn xd then (bif au (3:Nat) n (ag (3:Nat) ts)&&au (6:Nat) m (ag (6:Nat) ps)&&T.sf n I m G xb xn xd then (bif au (3:Nat) n (ag (3:Nat) ts)&&au (6:Nat) m (ag (6:Nat) ps)&&T.sf n I m G xb xn xd then (bif au (3:Nat) n (ag (3:Nat) ts)&&au (6:Nat) m (ag (6:Nat) ps)&&C.ko n I m G then (bif au (3:Nat) n (ag (3:Nat) ts)&&au (6:Nat) m (ag (6:Nat) ps)&&C.ko n I m G then (bif decide (C.ck n I m G=C.ck n I m G) then (bif bif false then !(j.qn (P.sv n I m G)==j.qn (P.sv n I m G)&&U) else j.qn (P.sv n I m G)==j.qn (P.sv n I m G)&&U then (bif decide (P.se n I m G=P.se n I m G) then (bif bif false then !(j.qn J==j.qn J&&(aG (j.qs J) (j.qs J)&&(aG (j.qd J) (j.qd J)&&true))&&(j.qn M==j.qn M&&(aG (j.qs M) (j.qs M)&&(aG (j.qd M) (j.qd M)&&true))&&true)) else j.qn J==j.qn J&&(aG (j.qs J) (j.qs J)&&(aG (j.qd J) (j.qd J)&&true))&&(j.qn M==j.qn M&&(aG (j.qs M) (j.qs M)&&(aG (j.qd M) (j.qd M)&&true))&&true) then (bif decide (A.ae n I m G xb xn xd=A.ae n I m G xb xn xd) then (bif au (3:Nat) n N&&au (6:Nat) m (ag (6:Nat) G)&&(au (3:Nat) n N&&au (6:Nat) m (ag (6:Nat) G)&&S.sm n (af (3:Nat) n N) m (af (6:Nat) m (ag (6:Nat) G)) n (af (3:Nat) n N) m (af (6:Nat) m (ag (6:Nat) G))) then some (.val (.bool true)) else none) else some (.val (.bool false))) else some (.val (.bool false))) else some (.val (.bool false))) else some (.val (.bool false))) else some (.val (.bool false))) else none) else none) else none) else none) else none) else none) else none) else none) else none) else none))) else none)):=by kernel_rfl
theorem aac (N:Gg) (C:Cg) (K:Hg) (A:Ag) (P:Pg) (S:Sm) (R:Eg) (j:Qg) (n:Nat) (ts:List Value) (m:Nat) (ps:List Value) (xb:Bool) (xn xd:BA):letI G:=(af (3:Nat) n (ag (3:Nat) ts));letI I:=(af (6:Nat) m (ag (6:Nat) ps));letI J:=(A.ax n G m I xb xn xd);letI M:=(A.ay n G m I xb xn xd);letI O:=(aG (j.qs (P.sv n G m I)) (j.qs (P.sv n G m I))&&(aG (j.qd (P.sv n G m I)) (j.qd (P.sv n G m I))&&true));
  (aD Tryz.prog ⟨G6 N C K A P S R j,ar,aq⟩ 10 10 3 [bH n ts m ps,w3 xb xn xd]=(bif au (3:Nat) n (ag (3:Nat) ts)&&au (6:Nat) m (ag (6:Nat) ps)&&N.go n G m I then (bif N.gt n G m I then some (.val (.bool true)) else (bif K.gr xn xd then some (.val (.bool true)) else (bif au (3:Nat) n (ag (3:Nat) ts)&&au (6:Nat) m (ag (6:Nat) ps)&&C.ko n G m I then (bif au (3:Nat) n (ag (3:Nat) ts)&&au (6:Nat) m (ag (6:Nat) ps)&&C.ko n G m I then (bif au (3:Nat) n (ag (3:Nat) ts)&&au (6:Nat) m (ag (6:Nat) ps)&&A.ak n G m I xn xd then (bif au (3:Nat) n (ag (3:Nat) ts)&&au (6:Nat) m (ag (6:Nat) ps)&&A.ak n G m I xn xd then (bif au (3:Nat) n (ag (3:Nat) ts)&&au (6:Nat) m (ag (6:Nat) ps)&&R.ea n G m I xb xn xd then (bif au (3:Nat) n (ag (3:Nat) ts)&&au (6:Nat) m (ag (6:Nat) ps)&&R.ea n G m I xb xn xd then (bif au (3:Nat) n (ag (3:Nat) ts)&&au (6:Nat) m (ag (6:Nat) ps)&&R.ea n G m I xb xn xd then (bif au (3:Nat) n (ag (3:Nat) ts)&&au (6:Nat) m (ag (6:Nat) ps)&&R.ea n G m I xb xn xd then (bif au (3:Nat) n (ag (3:Nat) ts)&&au (6:Nat) m (ag (6:Nat) ps)&&C.ko n G m I then (bif au (3:Nat) n (ag (3:Nat) ts)&&au (6:Nat) m (ag (6:Nat) ps)&&C.ko n G m I then (bif decide (C.ck n G m I=C.ck n G m I) then (bif bif false then !(j.qn (P.sv n G m I)==j.qn (P.sv n G m I)&&O) else j.qn (P.sv n G m I)==j.qn (P.sv n G m I)&&O then (bif decide (P.se n G m I=P.se n G m I) then (bif bif false then !(j.qn J==j.qn J&&(aG (j.qs J) (j.qs J)&&(aG (j.qd J) (j.qd J)&&true))&&(j.qn M==j.qn M&&(aG (j.qs M) (j.qs M)&&(aG (j.qd M) (j.qd M)&&true))&&true)) else j.qn J==j.qn J&&(aG (j.qs J) (j.qs J)&&(aG (j.qd J) (j.qd J)&&true))&&(j.qn M==j.qn M&&(aG (j.qs M) (j.qs M)&&(aG (j.qd M) (j.qd M)&&true))&&true) then (bif decide (A.ae n G m I xb xn xd=A.ae n G m I xb xn xd) then some (.val (.bool true)) else some (.val (.bool false))) else some (.val (.bool false))) else some (.val (.bool false))) else some (.val (.bool false))) else some (.val (.bool false))) else none) else none) else none) else none) else none) else none) else none) else none) else none) else none))) else none)):=by kernel_rfl
end
end Go.Proofs.YtamcpiicmfielaaGreat.L
namespace Go.Proofs.YtamcpiicmfielaaGreat.L
open Go Go.V Go.RowKit Go.Proofs.YtamcpiicmfielaaGreat.Sp
open Go.Proofs (Tryz.prog)
noncomputable section
theorem zS:bb Tryz.prog (Ha jk aW a8 cw dg kW ik k9 ad):=((((((((((((((aH _).add VW).add V9).add Ke).add J5).add B5).add qo).add nv).add BY).add BO).add B3).add B6).add BP).add ta).add BR
theorem PK:bb Tryz.prog (G9 jk aW a8 cw dg kW ik k9 ad):=((((((((((((((aH _).add VU).add V8).add Ke).add J5).add B5).add qo).add nv).add BY).add BO).add B3).add B6).add BP).add ta).add BR
theorem PJ:bb Tryz.prog (G6 jk aW a8 cw dg kW nw ad):=((((((((((((((aH _).add VT).add V7).add VG).add Vk).add B5).add qo).add nv).add BY).add BO).add B3).add B6).add BP).add ta).add BR
theorem aaf (n:Nat) (ts:List Value) (m:Nat) (ps:List Value) (l1:ts.length=n*3) (a5:fI n ts=true) (l2:ps.length=m*6) (N:jM m ps=true) (xb:Bool) (xn xd:BA):
  ∃ E:Env,bb Tryz.prog E.C∧cL Tryz.prog E∧aD Tryz.prog E 10 10 3 [bH n ts m ps,w3 xb xn xd]=some (.val (.bool true)):=by
 have T:=aae jk aW a8 cw dg kW ik k9 ad n ts m ps xb xn xd
 have G:=aad jk aW a8 cw dg kW ik k9 ad n ts m ps xb xn xd
 have I:=aac jk aW a8 cw dg kW nw ad n ts m ps xb xn xd
 have a6:jk.go n ts m ps=true:=by show (fI n ts&&jM m ps)=true;rw [a5,N];rfl
 simp only [bc l1,bc l2,bn,a6,beq_self_eq_true,pF,decide_true] at T G I
 by_cases O:nB n ts m ps=true
 ·rw [show jk.gt n ts m ps=true from O] at T;exact ⟨_,zS,aK,T⟩
 have J:=abN a5 N O
 rw [show jk.gt n ts m ps=false from Bool.eq_false_iff.2 O,show aW.ko n ts m ps=true from J.ko] at T G I
 by_cases S:a8.gr xn xd=true
 ·rw [S] at T;exact ⟨_,zS,aK,T⟩
 have b3:=xL (Bool.eq_false_iff.2 S)
 have U:=LR b3
 have bx:cw.ak n ts m ps xn xd=true:=by
  show (cW n ts m ps&&bo xn xd)=true
  rw [J.ko,U];rfl
 rw [Bool.eq_false_iff.2 S,bx] at T G I
 by_cases a3:bJ n ts m ps=0∧ad.ck xb xn xd=0
 ·obtain ⟨ab,b4⟩:=a3
  obtain ⟨rfl,b6,a0,_⟩:=nm ab
  have M:ll n ts n ps xb xn xd=true:=by
   unfold ll
   rw [J.ko,U,decide_eq_true ab,decide_eq_true b4];rfl
  have Z:ik.dt n ts (ad.qv xb xn xd)=aP n (fun j=>qt ts j+ad.qv xb xn xd):=rfl
  have a4:=eU n (fun j=>qt ts j+ad.qv xb xn xd)
  have a2:kW.sm n (aP n (fun j=>qt ts j+ad.qv xb xn xd)) n ps n (aP n (fun j=>qt ts j+ad.qv xb xn xd)) n ps=true:=NZ (LM a0) N
  by_cases a1:0 < ad.qv xb xn xd
  ·have b2:k9.sk n ts n ps xb xn xd=true:=by
    show pD n ts n ps xb xn xd=true
    unfold pD
    rw [M,decide_eq_true a1];rfl
   have a7:k9.st n ts (ad.qv xb xn xd)=aP n (aY ts (ad.qv xb xn xd)):=rfl
   have b5:=eU n (aY ts (ad.qv xb xn xd))
   have b0:kW.sm n (aP n (aY ts (ad.qv xb xn xd))) n ps n (aP n (aY ts (ad.qv xb xn xd))) n ps=true:=NZ (LM a0) N
   simp only [Z,a7,bc a4,bc b5,bc l2,bn,a2,b0,b2,show ik.dk n ts n ps xb xn xd=true from M] at T
   exact ⟨_,zS,aK,T⟩
  ·have b1:k9.sf n ts n ps xb xn xd=true:=by
    show pb n ts n ps xb xn xd=true
    unfold pb
    rw [M,decide_eq_false a1];rfl
   simp only [Z,bc a4,bc l2,bn,a2,b1,show ik.dk n ts n ps xb xn xd=true from M] at G
   exact ⟨_,PK,aK,G⟩
 ·have bD:nw.ea n ts m ps xb xn xd=true:=by
   show th n ts m ps xb xn xd=true
   unfold th
   rw [J.ko,U,Bool.true_and,Bool.true_and,Bool.not_eq_true',Bool.and_eq_false_iff,decide_eq_false_iff_not,decide_eq_false_iff_not]
   exact Classical.not_and_iff_not_or_not.1 a3
  rw [bD] at I
  exact ⟨_,PJ,aK,I⟩
theorem aag (n:Nat) (ts:List Value) (m:Nat) (ps:List Value) (l1:ts.length=n*3) (J:fI n ts=true) (l2:ps.length=m*6) (M:jM m ps=true) (xb:Bool) (xn xd:BA) (W:World) (v:Value) (I:(bH n ts m ps).Rel Tryz.prog cd (fun _=>False) W bh v):Calls Tryz.prog 3 #[v, .agg #[.bool xb, .string xn, .string xd]] W fun e w'=>e= .returned (.bool true)∧Below W.heap.size W w':=by
 obtain ⟨E,j,G,h⟩:=aaf n ts m ps l1 J l2 M xb xn xd
 exact Xi j G (by kernel_rfl) h W ⟨_,_,rfl,I,_,_,rfl,QW _ _ xb xn xd,rfl⟩
end
end Go.Proofs.YtamcpiicmfielaaGreat.L
