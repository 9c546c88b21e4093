import Derived.Test.YtamcpiicmfielaaGreatZNA
import Derived.Test.YtamcpiicmfielaaGreatZMD
set_option linter.unusedVariables false
set_option linter.unusedSimpArgs false
namespace Go.Proofs.YtamcpiicmfielaaGreat.L
open Go Go.V Go.RowKit Go.Proofs.YtamcpiicmfielaaGreat.Sp Go.Proofs.YtamcpiicmfielaaGreat.F Go.Proofs.YtamcpiicmfielaaGreatW.PrintWords
open Go.Proofs (Tryz.prog)
noncomputable section
def fG (S:Sg):FuncId→List AV→Option (Bool×AV):=au 133 (vR S) (au 137 (zI S) (au 160 (og S) (au 136 (zD S) aM)))
theorem zY:bf Tryz.prog (fG aa):=((((aK _).add J1).add qJ).add J9).add Cc
abbrev bT:List Bool:= [false,true,false,true,true,false,false,true,false,false,true,false,true,true,true,true,true,true]
def cj (a:ByteArray) (zs:List Int) (r:ByteArray) (i d k:Int) (G I J M O U Z ab:ByteArray):List AV:=ao 76 [(0, .val (.string a)),(6, .ptr 0 0),(8, .sl false 5 1 0 zs.length),(9, .val (.string r)),(10, .val (.int .i64 i)),(11, .val (.int .i64 d)),(12, .val (.int .i64 k))]
def cd (a:ByteArray) (zs:List Int) (r:ByteArray) (i d k:Int) (G I J M O U Z ab:ByteArray):Hp:= [.row (.cells [.val (.string G), .val (.string I), .val (.string J), .val (.string M), .val (.string O), .val (.string U), .val (.string Z), .val (.string ab)]) 176 .live, .row (.ints .u8 zs) 5 .live]
theorem Rj:aI Tryz.prog 161 bT=some (.loop (lb 161 bT)):=by kernel_rfl
theorem S5:aI Tryz.prog 161 (false :: bT)=some (lb 161 bT):=by kernel_rfl
theorem nf {a:ByteArray} {zs:List Int} {r:ByteArray} {i d k:Int} {G I J M O U Z ab:ByteArray} {e:Ex} {T:List AV} {H:Hp} (h:aP Tryz.prog ⟨fG aa,az,aq⟩ 161 [0,6,8,9,10,11,12] (lb 161 bT) (false :: bT) (cj a zs r i d k G I J M O U Z ab) (cd a zs r i d k G I J M O U Z ab)=some (e,T,H)):V.Ends Tryz.prog false 0 0 (lb 161 bT) (cj a zs r i d k G I J M O U Z ab) (cd a zs r i d k G I J M O U Z ab) e T H:=
 bK zY aO mixed S5 h
theorem Va (S:Sg) (a:ByteArray) (zs:List Int) (r:ByteArray) (i d:Int) (I J M O U Z ab G:ByteArray):aP Tryz.prog ⟨fG S,az,aq⟩ 161 [0,6,8,9,10,11,12] (lb 161 bT) (false :: bT) (cj a zs r i d (7) I J M O U Z ab G) (cd a zs r i d (7) I J M O U Z ab G)=
  (bif aF r (S.mg (S.vs r))&&aF G (S.mg (S.vs G)) then (bif decide (0≤S.cmp (S.vs r) (S.vs G)) then (bif S.ok r&&S.ok G&&decide (S.vs G≤S.vs r) then (bif ah IntKind.i64 (d+128) then some (.normal,ao 76 [(0,(.val (.string a))),(6,(.ptr 0 0)),(8,(.sl false 5 1 0 zs.length)),(9,(.val (.string (S.mg (S.vs r - S.vs G))))),(10,(.val (.int .i64 i))),(11,(.val (.int .i64 (d+128)))),(12,(.val (.int .i64 6)))], [(.row (.cells [(.val (.string I)),(.val (.string J)),(.val (.string M)),(.val (.string O)),(.val (.string U)),(.val (.string Z)),(.val (.string ab)),(.val (.string G))]) 176 .live),(.row (.ints .u8 zs) 5 .live)]) else none) else none) else some (.normal,ao 76 [(0,(.val (.string a))),(6,(.ptr 0 0)),(8,(.sl false 5 1 0 zs.length)),(9,(.val (.string r))),(10,(.val (.int .i64 i))),(11,(.val (.int .i64 d))),(12,(.val (.int .i64 6)))], [(.row (.cells [(.val (.string I)),(.val (.string J)),(.val (.string M)),(.val (.string O)),(.val (.string U)),(.val (.string Z)),(.val (.string ab)),(.val (.string G))]) 176 .live),(.row (.ints .u8 zs) 5 .live)])) else none):=by kernel_rfl
theorem U9 (S:Sg) (a:ByteArray) (zs:List Int) (r:ByteArray) (i d:Int) (I J M O U Z G ab:ByteArray):aP Tryz.prog ⟨fG S,az,aq⟩ 161 [0,6,8,9,10,11,12] (lb 161 bT) (false :: bT) (cj a zs r i d (6) I J M O U Z G ab) (cd a zs r i d (6) I J M O U Z G ab)=
  (bif aF r (S.mg (S.vs r))&&aF G (S.mg (S.vs G)) then (bif decide (0≤S.cmp (S.vs r) (S.vs G)) then (bif S.ok r&&S.ok G&&decide (S.vs G≤S.vs r) then (bif ah IntKind.i64 (d+64) then some (.normal,ao 76 [(0,(.val (.string a))),(6,(.ptr 0 0)),(8,(.sl false 5 1 0 zs.length)),(9,(.val (.string (S.mg (S.vs r - S.vs G))))),(10,(.val (.int .i64 i))),(11,(.val (.int .i64 (d+64)))),(12,(.val (.int .i64 5)))], [(.row (.cells [(.val (.string I)),(.val (.string J)),(.val (.string M)),(.val (.string O)),(.val (.string U)),(.val (.string Z)),(.val (.string G)),(.val (.string ab))]) 176 .live),(.row (.ints .u8 zs) 5 .live)]) else none) else none) else some (.normal,ao 76 [(0,(.val (.string a))),(6,(.ptr 0 0)),(8,(.sl false 5 1 0 zs.length)),(9,(.val (.string r))),(10,(.val (.int .i64 i))),(11,(.val (.int .i64 d))),(12,(.val (.int .i64 5)))], [(.row (.cells [(.val (.string I)),(.val (.string J)),(.val (.string M)),(.val (.string O)),(.val (.string U)),(.val (.string Z)),(.val (.string G)),(.val (.string ab))]) 176 .live),(.row (.ints .u8 zs) 5 .live)])) else none):=by kernel_rfl
theorem U8 (S:Sg) (a:ByteArray) (zs:List Int) (r:ByteArray) (i d:Int) (I J M O U G Z ab:ByteArray):aP Tryz.prog ⟨fG S,az,aq⟩ 161 [0,6,8,9,10,11,12] (lb 161 bT) (false :: bT) (cj a zs r i d (5) I J M O U G Z ab) (cd a zs r i d (5) I J M O U G Z ab)=
  (bif aF r (S.mg (S.vs r))&&aF G (S.mg (S.vs G)) then (bif decide (0≤S.cmp (S.vs r) (S.vs G)) then (bif S.ok r&&S.ok G&&decide (S.vs G≤S.vs r) then (bif ah IntKind.i64 (d+32) then some (.normal,ao 76 [(0,(.val (.string a))),(6,(.ptr 0 0)),(8,(.sl false 5 1 0 zs.length)),(9,(.val (.string (S.mg (S.vs r - S.vs G))))),(10,(.val (.int .i64 i))),(11,(.val (.int .i64 (d+32)))),(12,(.val (.int .i64 4)))], [(.row (.cells [(.val (.string I)),(.val (.string J)),(.val (.string M)),(.val (.string O)),(.val (.string U)),(.val (.string G)),(.val (.string Z)),(.val (.string ab))]) 176 .live),(.row (.ints .u8 zs) 5 .live)]) else none) else none) else some (.normal,ao 76 [(0,(.val (.string a))),(6,(.ptr 0 0)),(8,(.sl false 5 1 0 zs.length)),(9,(.val (.string r))),(10,(.val (.int .i64 i))),(11,(.val (.int .i64 d))),(12,(.val (.int .i64 4)))], [(.row (.cells [(.val (.string I)),(.val (.string J)),(.val (.string M)),(.val (.string O)),(.val (.string U)),(.val (.string G)),(.val (.string Z)),(.val (.string ab))]) 176 .live),(.row (.ints .u8 zs) 5 .live)])) else none):=by kernel_rfl
theorem U7 (S:Sg) (a:ByteArray) (zs:List Int) (r:ByteArray) (i d:Int) (I J M O G U Z ab:ByteArray):aP Tryz.prog ⟨fG S,az,aq⟩ 161 [0,6,8,9,10,11,12] (lb 161 bT) (false :: bT) (cj a zs r i d (4) I J M O G U Z ab) (cd a zs r i d (4) I J M O G U Z ab)=
  (bif aF r (S.mg (S.vs r))&&aF G (S.mg (S.vs G)) then (bif decide (0≤S.cmp (S.vs r) (S.vs G)) then (bif S.ok r&&S.ok G&&decide (S.vs G≤S.vs r) then (bif ah IntKind.i64 (d+16) then some (.normal,ao 76 [(0,(.val (.string a))),(6,(.ptr 0 0)),(8,(.sl false 5 1 0 zs.length)),(9,(.val (.string (S.mg (S.vs r - S.vs G))))),(10,(.val (.int .i64 i))),(11,(.val (.int .i64 (d+16)))),(12,(.val (.int .i64 3)))], [(.row (.cells [(.val (.string I)),(.val (.string J)),(.val (.string M)),(.val (.string O)),(.val (.string G)),(.val (.string U)),(.val (.string Z)),(.val (.string ab))]) 176 .live),(.row (.ints .u8 zs) 5 .live)]) else none) else none) else some (.normal,ao 76 [(0,(.val (.string a))),(6,(.ptr 0 0)),(8,(.sl false 5 1 0 zs.length)),(9,(.val (.string r))),(10,(.val (.int .i64 i))),(11,(.val (.int .i64 d))),(12,(.val (.int .i64 3)))], [(.row (.cells [(.val (.string I)),(.val (.string J)),(.val (.string M)),(.val (.string O)),(.val (.string G)),(.val (.string U)),(.val (.string Z)),(.val (.string ab))]) 176 .live),(.row (.ints .u8 zs) 5 .live)])) else none):=by kernel_rfl
theorem U6 (S:Sg) (a:ByteArray) (zs:List Int) (r:ByteArray) (i d:Int) (I J M G O U Z ab:ByteArray):aP Tryz.prog ⟨fG S,az,aq⟩ 161 [0,6,8,9,10,11,12] (lb 161 bT) (false :: bT) (cj a zs r i d (3) I J M G O U Z ab) (cd a zs r i d (3) I J M G O U Z ab)=
  (bif aF r (S.mg (S.vs r))&&aF G (S.mg (S.vs G)) then (bif decide (0≤S.cmp (S.vs r) (S.vs G)) then (bif S.ok r&&S.ok G&&decide (S.vs G≤S.vs r) then (bif ah IntKind.i64 (d+8) then some (.normal,ao 76 [(0,(.val (.string a))),(6,(.ptr 0 0)),(8,(.sl false 5 1 0 zs.length)),(9,(.val (.string (S.mg (S.vs r - S.vs G))))),(10,(.val (.int .i64 i))),(11,(.val (.int .i64 (d+8)))),(12,(.val (.int .i64 2)))], [(.row (.cells [(.val (.string I)),(.val (.string J)),(.val (.string M)),(.val (.string G)),(.val (.string O)),(.val (.string U)),(.val (.string Z)),(.val (.string ab))]) 176 .live),(.row (.ints .u8 zs) 5 .live)]) else none) else none) else some (.normal,ao 76 [(0,(.val (.string a))),(6,(.ptr 0 0)),(8,(.sl false 5 1 0 zs.length)),(9,(.val (.string r))),(10,(.val (.int .i64 i))),(11,(.val (.int .i64 d))),(12,(.val (.int .i64 2)))], [(.row (.cells [(.val (.string I)),(.val (.string J)),(.val (.string M)),(.val (.string G)),(.val (.string O)),(.val (.string U)),(.val (.string Z)),(.val (.string ab))]) 176 .live),(.row (.ints .u8 zs) 5 .live)])) else none):=by kernel_rfl
theorem U5 (S:Sg) (a:ByteArray) (zs:List Int) (r:ByteArray) (i d:Int) (I J G M O U Z ab:ByteArray):aP Tryz.prog ⟨fG S,az,aq⟩ 161 [0,6,8,9,10,11,12] (lb 161 bT) (false :: bT) (cj a zs r i d (2) I J G M O U Z ab) (cd a zs r i d (2) I J G M O U Z ab)=
  (bif aF r (S.mg (S.vs r))&&aF G (S.mg (S.vs G)) then (bif decide (0≤S.cmp (S.vs r) (S.vs G)) then (bif S.ok r&&S.ok G&&decide (S.vs G≤S.vs r) then (bif ah IntKind.i64 (d+4) then some (.normal,ao 76 [(0,(.val (.string a))),(6,(.ptr 0 0)),(8,(.sl false 5 1 0 zs.length)),(9,(.val (.string (S.mg (S.vs r - S.vs G))))),(10,(.val (.int .i64 i))),(11,(.val (.int .i64 (d+4)))),(12,(.val (.int .i64 1)))], [(.row (.cells [(.val (.string I)),(.val (.string J)),(.val (.string G)),(.val (.string M)),(.val (.string O)),(.val (.string U)),(.val (.string Z)),(.val (.string ab))]) 176 .live),(.row (.ints .u8 zs) 5 .live)]) else none) else none) else some (.normal,ao 76 [(0,(.val (.string a))),(6,(.ptr 0 0)),(8,(.sl false 5 1 0 zs.length)),(9,(.val (.string r))),(10,(.val (.int .i64 i))),(11,(.val (.int .i64 d))),(12,(.val (.int .i64 1)))], [(.row (.cells [(.val (.string I)),(.val (.string J)),(.val (.string G)),(.val (.string M)),(.val (.string O)),(.val (.string U)),(.val (.string Z)),(.val (.string ab))]) 176 .live),(.row (.ints .u8 zs) 5 .live)])) else none):=by kernel_rfl
theorem U4 (S:Sg) (a:ByteArray) (zs:List Int) (r:ByteArray) (i d:Int) (I G J M O U Z ab:ByteArray):aP Tryz.prog ⟨fG S,az,aq⟩ 161 [0,6,8,9,10,11,12] (lb 161 bT) (false :: bT) (cj a zs r i d (1) I G J M O U Z ab) (cd a zs r i d (1) I G J M O U Z ab)=
  (bif aF r (S.mg (S.vs r))&&aF G (S.mg (S.vs G)) then (bif decide (0≤S.cmp (S.vs r) (S.vs G)) then (bif S.ok r&&S.ok G&&decide (S.vs G≤S.vs r) then (bif ah IntKind.i64 (d+2) then some (.normal,ao 76 [(0,(.val (.string a))),(6,(.ptr 0 0)),(8,(.sl false 5 1 0 zs.length)),(9,(.val (.string (S.mg (S.vs r - S.vs G))))),(10,(.val (.int .i64 i))),(11,(.val (.int .i64 (d+2)))),(12,(.val (.int .i64 0)))], [(.row (.cells [(.val (.string I)),(.val (.string G)),(.val (.string J)),(.val (.string M)),(.val (.string O)),(.val (.string U)),(.val (.string Z)),(.val (.string ab))]) 176 .live),(.row (.ints .u8 zs) 5 .live)]) else none) else none) else some (.normal,ao 76 [(0,(.val (.string a))),(6,(.ptr 0 0)),(8,(.sl false 5 1 0 zs.length)),(9,(.val (.string r))),(10,(.val (.int .i64 i))),(11,(.val (.int .i64 d))),(12,(.val (.int .i64 0)))], [(.row (.cells [(.val (.string I)),(.val (.string G)),(.val (.string J)),(.val (.string M)),(.val (.string O)),(.val (.string U)),(.val (.string Z)),(.val (.string ab))]) 176 .live),(.row (.ints .u8 zs) 5 .live)])) else none):=by kernel_rfl
theorem U3 (S:Sg) (a:ByteArray) (zs:List Int) (r:ByteArray) (i d:Int) (G I J M O U Z ab:ByteArray):aP Tryz.prog ⟨fG S,az,aq⟩ 161 [0,6,8,9,10,11,12] (lb 161 bT) (false :: bT) (cj a zs r i d (0) G I J M O U Z ab) (cd a zs r i d (0) G I J M O U Z ab)=
  (bif aF r (S.mg (S.vs r))&&aF G (S.mg (S.vs G)) then (bif decide (0≤S.cmp (S.vs r) (S.vs G)) then (bif S.ok r&&S.ok G&&decide (S.vs G≤S.vs r) then (bif ah IntKind.i64 (d+1) then some (.normal,ao 76 [(0,(.val (.string a))),(6,(.ptr 0 0)),(8,(.sl false 5 1 0 zs.length)),(9,(.val (.string (S.mg (S.vs r - S.vs G))))),(10,(.val (.int .i64 i))),(11,(.val (.int .i64 (d+1)))),(12,(.val (.int .i64 (-1))))], [(.row (.cells [(.val (.string G)),(.val (.string I)),(.val (.string J)),(.val (.string M)),(.val (.string O)),(.val (.string U)),(.val (.string Z)),(.val (.string ab))]) 176 .live),(.row (.ints .u8 zs) 5 .live)]) else none) else none) else some (.normal,ao 76 [(0,(.val (.string a))),(6,(.ptr 0 0)),(8,(.sl false 5 1 0 zs.length)),(9,(.val (.string r))),(10,(.val (.int .i64 i))),(11,(.val (.int .i64 d))),(12,(.val (.int .i64 (-1))))], [(.row (.cells [(.val (.string G)),(.val (.string I)),(.val (.string J)),(.val (.string M)),(.val (.string O)),(.val (.string U)),(.val (.string Z)),(.val (.string ab))]) 176 .live),(.row (.ints .u8 zs) 5 .live)])) else none):=by kernel_rfl
theorem Vb (S:Sg) (a:ByteArray) (zs:List Int) (r:ByteArray) (i d:Int) (G I J M O U Z ab:ByteArray):aP Tryz.prog ⟨fG S,az,aq⟩ 161 [0,6,8,9,10,11,12] (lb 161 bT) (false :: bT) (cj a zs r i d (-1) G I J M O U Z ab) (cd a zs r i d (-1) G I J M O U Z ab)=
  (some ((.exit 4),ao 76 [(0,(.val (.string a))),(6,(.ptr 0 0)),(8,(.sl false 5 1 0 zs.length)),(9,(.val (.string r))),(10,(.val (.int .i64 i))),(11,(.val (.int .i64 d))),(12,(.val (.int .i64 (-1))))], [(.row (.cells [(.val (.string G)),(.val (.string I)),(.val (.string J)),(.val (.string M)),(.val (.string O)),(.val (.string U)),(.val (.string Z)),(.val (.string ab))]) 176 .live),(.row (.ints .u8 zs) 5 .live)])):=by kernel_rfl
theorem nN (n:Nat):aF (av n) (aa.mg n)=true:=kA _
theorem eX (n:Nat):aa.vs (av n)=n:=jg n
theorem rS (n:Nat):(av n).size=bs n:=kW n
theorem ej {n:Nat} (h:bs n≤8796093022208):aa.ok (av n)=true:=decide_eq_true (by rw [rS];exact h)
theorem fp (a b:Nat):0≤aa.cmp a b↔b≤a:=by
 show 0≤cu a b↔_
 unfold cu
 split <;> (try split) <;> omega
def bU (G R:Nat):Nat:=if G≤R then R - G else R
def bX (m G R d:Nat):Nat:=if G≤R then d+m else d
theorem Vk (a:ByteArray) (zs:List Int) (i:Int) (J M O U Z ab aE I:ByteArray) (R G d:Nat) (a7:I=av G) (a1:bs G≤8796093022208) (a6:bs R≤8796093022208) (bx:d≤1000):
  V.Ends Tryz.prog false 0 0 (lb 161 bT) (cj a zs (av R) i (d:Int) 7 J M O U Z ab aE I) (cd a zs (av R) i (d:Int) 7 J M O U Z ab aE I) .normal
   (cj a zs (av (bU G R)) i ((bX 128 G R d:Nat):Int) (7 - 1) J M O U Z ab aE I) (cd a zs (av (bU G R)) i ((bX 128 G R d:Nat):Int) (7 - 1) J M O U Z ab aE I):=by
 subst a7
 refine nf ?_
 rw [Va]
 simp only [nN,eX]
 rw [ej a6,ej a1]
 unfold bU bX
 by_cases h:G≤R
 ·rw [if_pos h,if_pos h,dT ((fp R G).2 h),dT h,aJ (z:=(d:Int)+128) (by omega),show (d:Int)+128=((d+128:Nat):Int) by omega]
  rfl
 ·rw [if_neg h,if_neg h,dF (fun h'=>h ((fp R G).1 h'))]
  rfl
theorem Vj (a:ByteArray) (zs:List Int) (i:Int) (J M O U Z ab I aE:ByteArray) (R G d:Nat) (a7:I=av G) (a1:bs G≤8796093022208) (a6:bs R≤8796093022208) (bx:d≤1000):
  V.Ends Tryz.prog false 0 0 (lb 161 bT) (cj a zs (av R) i (d:Int) 6 J M O U Z ab I aE) (cd a zs (av R) i (d:Int) 6 J M O U Z ab I aE) .normal
   (cj a zs (av (bU G R)) i ((bX 64 G R d:Nat):Int) (6 - 1) J M O U Z ab I aE) (cd a zs (av (bU G R)) i ((bX 64 G R d:Nat):Int) (6 - 1) J M O U Z ab I aE):=by
 subst a7
 refine nf ?_
 rw [U9]
 simp only [nN,eX]
 rw [ej a6,ej a1]
 unfold bU bX
 by_cases h:G≤R
 ·rw [if_pos h,if_pos h,dT ((fp R G).2 h),dT h,aJ (z:=(d:Int)+64) (by omega),show (d:Int)+64=((d+64:Nat):Int) by omega]
  rfl
 ·rw [if_neg h,if_neg h,dF (fun h'=>h ((fp R G).1 h'))]
  rfl
theorem Vi (a:ByteArray) (zs:List Int) (i:Int) (J M O U Z I ab aE:ByteArray) (R G d:Nat) (a7:I=av G) (a1:bs G≤8796093022208) (a6:bs R≤8796093022208) (bx:d≤1000):
  V.Ends Tryz.prog false 0 0 (lb 161 bT) (cj a zs (av R) i (d:Int) 5 J M O U Z I ab aE) (cd a zs (av R) i (d:Int) 5 J M O U Z I ab aE) .normal
   (cj a zs (av (bU G R)) i ((bX 32 G R d:Nat):Int) (5 - 1) J M O U Z I ab aE) (cd a zs (av (bU G R)) i ((bX 32 G R d:Nat):Int) (5 - 1) J M O U Z I ab aE):=by
 subst a7
 refine nf ?_
 rw [U8]
 simp only [nN,eX]
 rw [ej a6,ej a1]
 unfold bU bX
 by_cases h:G≤R
 ·rw [if_pos h,if_pos h,dT ((fp R G).2 h),dT h,aJ (z:=(d:Int)+32) (by omega),show (d:Int)+32=((d+32:Nat):Int) by omega]
  rfl
 ·rw [if_neg h,if_neg h,dF (fun h'=>h ((fp R G).1 h'))]
  rfl
theorem Vh (a:ByteArray) (zs:List Int) (i:Int) (J M O U I Z ab aE:ByteArray) (R G d:Nat) (a7:I=av G) (a1:bs G≤8796093022208) (a6:bs R≤8796093022208) (bx:d≤1000):
  V.Ends Tryz.prog false 0 0 (lb 161 bT) (cj a zs (av R) i (d:Int) 4 J M O U I Z ab aE) (cd a zs (av R) i (d:Int) 4 J M O U I Z ab aE) .normal
   (cj a zs (av (bU G R)) i ((bX 16 G R d:Nat):Int) (4 - 1) J M O U I Z ab aE) (cd a zs (av (bU G R)) i ((bX 16 G R d:Nat):Int) (4 - 1) J M O U I Z ab aE):=by
 subst a7
 refine nf ?_
 rw [U7]
 simp only [nN,eX]
 rw [ej a6,ej a1]
 unfold bU bX
 by_cases h:G≤R
 ·rw [if_pos h,if_pos h,dT ((fp R G).2 h),dT h,aJ (z:=(d:Int)+16) (by omega),show (d:Int)+16=((d+16:Nat):Int) by omega]
  rfl
 ·rw [if_neg h,if_neg h,dF (fun h'=>h ((fp R G).1 h'))]
  rfl
theorem Vf (a:ByteArray) (zs:List Int) (i:Int) (J M O I U Z ab aE:ByteArray) (R G d:Nat) (a7:I=av G) (a1:bs G≤8796093022208) (a6:bs R≤8796093022208) (bx:d≤1000):
  V.Ends Tryz.prog false 0 0 (lb 161 bT) (cj a zs (av R) i (d:Int) 3 J M O I U Z ab aE) (cd a zs (av R) i (d:Int) 3 J M O I U Z ab aE) .normal
   (cj a zs (av (bU G R)) i ((bX 8 G R d:Nat):Int) (3 - 1) J M O I U Z ab aE) (cd a zs (av (bU G R)) i ((bX 8 G R d:Nat):Int) (3 - 1) J M O I U Z ab aE):=by
 subst a7
 refine nf ?_
 rw [U6]
 simp only [nN,eX]
 rw [ej a6,ej a1]
 unfold bU bX
 by_cases h:G≤R
 ·rw [if_pos h,if_pos h,dT ((fp R G).2 h),dT h,aJ (z:=(d:Int)+8) (by omega),show (d:Int)+8=((d+8:Nat):Int) by omega]
  rfl
 ·rw [if_neg h,if_neg h,dF (fun h'=>h ((fp R G).1 h'))]
  rfl
theorem Ve (a:ByteArray) (zs:List Int) (i:Int) (J M I O U Z ab aE:ByteArray) (R G d:Nat) (a7:I=av G) (a1:bs G≤8796093022208) (a6:bs R≤8796093022208) (bx:d≤1000):
  V.Ends Tryz.prog false 0 0 (lb 161 bT) (cj a zs (av R) i (d:Int) 2 J M I O U Z ab aE) (cd a zs (av R) i (d:Int) 2 J M I O U Z ab aE) .normal
   (cj a zs (av (bU G R)) i ((bX 4 G R d:Nat):Int) (2 - 1) J M I O U Z ab aE) (cd a zs (av (bU G R)) i ((bX 4 G R d:Nat):Int) (2 - 1) J M I O U Z ab aE):=by
 subst a7
 refine nf ?_
 rw [U5]
 simp only [nN,eX]
 rw [ej a6,ej a1]
 unfold bU bX
 by_cases h:G≤R
 ·rw [if_pos h,if_pos h,dT ((fp R G).2 h),dT h,aJ (z:=(d:Int)+4) (by omega),show (d:Int)+4=((d+4:Nat):Int) by omega]
  rfl
 ·rw [if_neg h,if_neg h,dF (fun h'=>h ((fp R G).1 h'))]
  rfl
theorem Vd (a:ByteArray) (zs:List Int) (i:Int) (J I M O U Z ab aE:ByteArray) (R G d:Nat) (a7:I=av G) (a1:bs G≤8796093022208) (a6:bs R≤8796093022208) (bx:d≤1000):
  V.Ends Tryz.prog false 0 0 (lb 161 bT) (cj a zs (av R) i (d:Int) 1 J I M O U Z ab aE) (cd a zs (av R) i (d:Int) 1 J I M O U Z ab aE) .normal
   (cj a zs (av (bU G R)) i ((bX 2 G R d:Nat):Int) (1 - 1) J I M O U Z ab aE) (cd a zs (av (bU G R)) i ((bX 2 G R d:Nat):Int) (1 - 1) J I M O U Z ab aE):=by
 subst a7
 refine nf ?_
 rw [U4]
 simp only [nN,eX]
 rw [ej a6,ej a1]
 unfold bU bX
 by_cases h:G≤R
 ·rw [if_pos h,if_pos h,dT ((fp R G).2 h),dT h,aJ (z:=(d:Int)+2) (by omega),show (d:Int)+2=((d+2:Nat):Int) by omega]
  rfl
 ·rw [if_neg h,if_neg h,dF (fun h'=>h ((fp R G).1 h'))]
  rfl
theorem Vc (a:ByteArray) (zs:List Int) (i:Int) (I J M O U Z ab aE:ByteArray) (R G d:Nat) (a7:I=av G) (a1:bs G≤8796093022208) (a6:bs R≤8796093022208) (bx:d≤1000):
  V.Ends Tryz.prog false 0 0 (lb 161 bT) (cj a zs (av R) i (d:Int) 0 I J M O U Z ab aE) (cd a zs (av R) i (d:Int) 0 I J M O U Z ab aE) .normal
   (cj a zs (av (bU G R)) i ((bX 1 G R d:Nat):Int) (0 - 1) I J M O U Z ab aE) (cd a zs (av (bU G R)) i ((bX 1 G R d:Nat):Int) (0 - 1) I J M O U Z ab aE):=by
 subst a7
 refine nf ?_
 rw [U3]
 simp only [nN,eX]
 rw [ej a6,ej a1]
 unfold bU bX
 by_cases h:G≤R
 ·rw [if_pos h,if_pos h,dT ((fp R G).2 h),dT h,aJ (z:=(d:Int)+1) (by omega),show (d:Int)+1=((d+1:Nat):Int) by omega]
  rfl
 ·rw [if_neg h,if_neg h,dF (fun h'=>h ((fp R G).1 h'))]
  rfl
theorem nH (m B R d I:Nat) (h:I=d*B+R) (J:R < 2*(m*B)):I=bX m (m*B) R d*B+bU (m*B) R∧bU (m*B) R < m*B:=by
 unfold bX bU
 by_cases G:m*B≤R
 ·rw [if_pos G,if_pos G,Nat.add_mul];omega
 ·rw [if_neg G,if_neg G];omega
theorem nG (m G R d k:Nat) (h:d≤k):bX m G R d≤k+m:=by unfold bX;split <;> omega
theorem U2 (G R:Nat):bU G R≤R:=by unfold bU;split <;> omega
def uv (a:ByteArray) (zs:List Int) (r:ByteArray) (i d k:Int) (G I J M O U Z ab:ByteArray):Prop:=∃ R B:Nat,r=av R∧d=0∧k=7∧R < 256*B∧bs (256*B)≤8796093022208∧
 G=av (1*B)∧I=av (2*B)∧J=av (4*B)∧M=av (8*B)∧O=av (16*B)∧U=av (32*B)∧Z=av (64*B)∧ab=av (128*B)
def yz (a:ByteArray) (zs:List Int) (r:ByteArray) (i d k:Int) (G I J M O U Z ab:ByteArray) (ρ:ByteArray×Int×Int):Prop:=ρ.1=av (vS r % vS G)∧ρ.2.1=((vS r / vS G:Nat):Int)
theorem Ya (a:ByteArray) (zs:List Int) (r:ByteArray) (i d k:Int) (I J M O U Z ab aE:ByteArray) (h:uv a zs r i d k I J M O U Z ab aE):∃ ρ:ByteArray×Int×Int,
  aA Tryz.prog (lb 161 bT) (cj a zs r i d k I J M O U Z ab aE) (cd a zs r i d k I J M O U Z ab aE) (.exit 4) (cj a zs ρ.1 i ρ.2.1 ρ.2.2 I J M O U Z ab aE) (cd a zs ρ.1 i ρ.2.1 ρ.2.2 I J M O U Z ab aE)∧yz a zs r i d k I J M O U Z ab aE ρ:=by
 obtain ⟨R,B,rfl,rfl,rfl,hA,e3,c0,e4,e5,e6,e7,fa,fc,e2⟩:=h
 obtain ⟨eN,hE⟩:=nH 128 B R 0 R (by omega) (by omega)
 have en:=nG 128 (128*B) R 0 0 (Nat.le_refl _)
 have hy:=U2 (128*B) R
 generalize hs:bU (128*B) R=b2 at*
 generalize hg:bX 128 (128*B) R 0=ch at*
 obtain ⟨ez,hD⟩:=nH 64 B b2 ch R eN (by omega)
 have ek:=nG 64 (64*B) b2 ch _ en
 generalize hr:bU (64*B) b2=b1 at*
 generalize hf:bX 64 (64*B) b2 ch=b7 at*
 obtain ⟨ev,hB⟩:=nH 32 B b1 b7 R ez (by omega)
 have eh:=nG 32 (32*B) b1 b7 _ ek
 generalize hq:bU (32*B) b1=b0 at*
 generalize hd:bX 32 (32*B) b1 b7=b6 at*
 obtain ⟨eu,l4⟩:=nH 16 B b0 b6 R ev (by omega)
 have eg:=nG 16 (16*B) b0 b6 _ eh
 generalize ho:bU (16*B) b0=bD at*
 generalize hc:bX 16 (16*B) b0 b6=b5 at*
 obtain ⟨et,l3⟩:=nH 8 B bD b5 R eu (by omega)
 have ed:=nG 8 (8*B) bD b5 _ eg
 generalize hn:bU (8*B) bD=bx at*
 generalize gn:bX 8 (8*B) bD b5=b4 at*
 obtain ⟨ep,l2⟩:=nH 4 B bx b4 R et (by omega)
 have ec:=nG 4 (4*B) bx b4 _ ed
 generalize hl:bU (4*B) bx=a7 at*
 generalize gf:bX 4 (4*B) bx b4=b3 at*
 obtain ⟨e1,l1⟩:=nH 2 B a7 b3 R ep (by omega)
 have d1:=nG 2 (2*B) a7 b3 _ ec
 generalize hj:bU (2*B) a7=a6 at*
 generalize fv:bX 2 (2*B) a7 b3=D1 at*
 obtain ⟨e0,l0⟩:=nH 1 B a6 D1 R e1 (by omega)
 have hz:=nG 1 (1*B) a6 D1 _ d1
 generalize hh:bU (1*B) a6=ct at*
 generalize fs:bX 1 (1*B) a6 D1=a1 at*
 have G:∀ n:Nat,n≤256*B→bs n≤8796093022208:=fun n ht=>Nat.le_trans (dH ht) e3
 refine ⟨(av ct,(a1:Int), -1), ?_, ?_⟩
 ·have eb:=Vk a zs i I J M O U Z ab aE R (128*B) 0 e2 (G _ (by omega)) (G _ (by omega)) (by omega)
  have ea:=Vj a zs i I J M O U Z ab aE b2 (64*B) ch fc (G _ (by omega)) (G _ (by omega)) (by omega)
  have dy:=Vi a zs i I J M O U Z ab aE b1 (32*B) b7 fa (G _ (by omega)) (G _ (by omega)) (by omega)
  have dx:=Vh a zs i I J M O U Z ab aE b0 (16*B) b6 e7 (G _ (by omega)) (G _ (by omega)) (by omega)
  have c7:=Vf a zs i I J M O U Z ab aE bD (8*B) b5 e6 (G _ (by omega)) (G _ (by omega)) (by omega)
  have c6:=Ve a zs i I J M O U Z ab aE bx (4*B) b4 e5 (G _ (by omega)) (G _ (by omega)) (by omega)
  have c5:=Vd a zs i I J M O U Z ab aE a7 (2*B) b3 e4 (G _ (by omega)) (G _ (by omega)) (by omega)
  have c4:=Vc a zs i I J M O U Z ab aE a6 (1*B) D1 c0 (G _ (by omega)) (G _ (by omega)) (by omega)
  rw [hs,hg] at eb
  rw [hr,hf] at ea
  rw [hq,hd] at dy
  rw [ho,hc] at dx
  rw [hn,gn] at c7
  rw [hl,gf] at c6
  rw [hj,fv] at c5
  rw [hh,fs] at c4
  refine .more eb (.more ea (.more dy (.more dx (.more c7 (.more c6 (.more c5 (.more c4 (.last (nf ?_) (by intro h;cases h)))))))))
  exact Vb aa a zs (av ct) i (a1:Int) I J M O U Z ab aE
 ·have hv:vS (av R)=R:=eX R
  have hx:vS I=B:=by rw [c0];exact (eX (1*B)).trans (Nat.one_mul B)
  unfold yz
  rw [hv,hx]
  have eo:ct+B*a1=R:=by rw [Nat.mul_comm B a1];omega
  have fh:0 < B:=by omega
  have c3:=(Nat.div_mod_unique (a:=R) (b:=B) (c:=ct) (d:=a1) fh).2 ⟨eo,by omega⟩
  rw [c3.1,c3.2]
  exact ⟨rfl,rfl⟩
def FP (a6:ByteArray→List Int→ByteArray→Int→Int→Int→ByteArray→ByteArray→ByteArray→ByteArray→ByteArray→ByteArray→ByteArray→ByteArray→Bool) (aE:ByteArray→List Int→ByteArray→Int→Int→Int→ByteArray→ByteArray→ByteArray→ByteArray→ByteArray→ByteArray→ByteArray→ByteArray→ByteArray×Int×Int) (T:List AV) (H:Hp):Option (Bool×Ex×List AV×Hp):=
 match al T 0,al T 6,al T 8,al T 9,al T 10,al T 11,al T 12,H with
 | .val (.string a), .ptr 0 0, .sl false 5 1 0 a1, .val (.string r), .val (.int .i64 i), .val (.int .i64 d), .val (.int .i64 k), [.row (.cells [.val (.string G), .val (.string I), .val (.string J), .val (.string M), .val (.string O), .val (.string U), .val (.string Z), .val (.string ab)]) 176 .live, .row (.ints .u8 zs) 5 .live]=>bif T.length==76 then some (decide (a1=zs.length)&&a6 a zs r i d k G I J M O U Z ab, .exit 4,cj a zs ((aE a zs r i d k G I J M O U Z ab).1) i ((aE a zs r i d k G I J M O U Z ab).2.1) ((aE a zs r i d k G I J M O U Z ab).2.2) G I J M O U Z ab,cd a zs ((aE a zs r i d k G I J M O U Z ab).1) i ((aE a zs r i d k G I J M O U Z ab).2.1) ((aE a zs r i d k G I J M O U Z ab).2.2) G I J M O U Z ab) else none
 | _,_,_,_,_,_,_,_=>none
abbrev HZ:Type:=ByteArray→List Int→ByteArray→Int→Int→Int→ByteArray→ByteArray→ByteArray→ByteArray→ByteArray→ByteArray→ByteArray→ByteArray→Bool
abbrev Hu:Type:=ByteArray→List Int→ByteArray→Int→Int→Int→ByteArray→ByteArray→ByteArray→ByteArray→ByteArray→ByteArray→ByteArray→ByteArray→ByteArray×Int×Int
def A9 (G:HZ) (I:Hu) (L:aD):aD:=bu 0 161 bT [0,6,8,9,10,11,12] (FP G I) L
def kQ (a:ByteArray) (zs:List Int) (r:ByteArray) (i d k:Int) (G I J M O U Z ab:ByteArray):ByteArray×Int×Int:=Classical.epsilon fun ρ=>aA Tryz.prog (lb 161 bT) (cj a zs r i d k G I J M O U Z ab) (cd a zs r i d k G I J M O U Z ab) (.exit 4) (cj a zs (ρ.1) i (ρ.2.1) (ρ.2.2) G I J M O U Z ab) (cd a zs (ρ.1) i (ρ.2.1) (ρ.2.2) G I J M O U Z ab)∧yz a zs r i d k G I J M O U Z ab ρ
theorem Ms (a:ByteArray) (zs:List Int) (r:ByteArray) (i d k:Int) (G I J M O U Z ab:ByteArray) (h:uv a zs r i d k G I J M O U Z ab):aA Tryz.prog (lb 161 bT) (cj a zs r i d k G I J M O U Z ab) (cd a zs r i d k G I J M O U Z ab) (.exit 4) (cj a zs ((kQ a zs r i d k G I J M O U Z ab).1) i ((kQ a zs r i d k G I J M O U Z ab).2.1) ((kQ a zs r i d k G I J M O U Z ab).2.2) G I J M O U Z ab) (cd a zs ((kQ a zs r i d k G I J M O U Z ab).1) i ((kQ a zs r i d k G I J M O U Z ab).2.1) ((kQ a zs r i d k G I J M O U Z ab).2.2) G I J M O U Z ab)∧yz a zs r i d k G I J M O U Z ab (kQ a zs r i d k G I J M O U Z ab):=Classical.epsilon_spec (Ya a zs r i d k G I J M O U Z ab h)
def sR (a:ByteArray) (zs:List Int) (r:ByteArray) (i d k:Int) (G I J M O U Z ab:ByteArray):Bool:= @decide (uv a zs r i d k G I J M O U Z ab) (Classical.propDecidable _)
theorem TX (a:ByteArray) (zs:List Int) (r:ByteArray) (i d k:Int) (G I J M O U Z ab:ByteArray) (h:uv a zs r i d k G I J M O U Z ab):sR a zs r i d k G I J M O U Z ab=true:= @decide_eq_true _ (Classical.propDecidable _) h
theorem ac8 (T:List AV) (H:Hp) (e:Ex) (J:List AV) (I:Hp) (h:FP sR kQ T H=some (true,e,J,I)):V.Ends Tryz.prog false 0 0 (.loop (lb 161 bT)) T H e J I:=by
 unfold FP at h
 split at h
 ·rename_i a ct r i d k b1 b2 b3 b4 b5 b6 b7 ch zs U a1 a6 a7 Z ab aE
  rw [Bool.cond_eq_ite] at h
  split at h
  ·rename_i M
   rw [beq_iff_eq] at M
   simp only [Option.some.injEq,Prod.mk.injEq,Bool.and_eq_true,decide_eq_true_eq] at h
   obtain ⟨⟨k1,bD⟩,rfl,rfl,rfl⟩:=h
   have b0:= @of_decide_eq_true _ (Classical.propDecidable _) bD
   refine Ends.pre (Ms a zs r i d k b1 b2 b3 b4 b5 b6 b7 ch b0).1.ends (fun α B w D c0 bx=>bw M (fun p O y G=> ?_) bx)
   simp only [List.mem_cons,List.not_mem_nil,or_false] at O
   rcases O with rfl | rfl | rfl | rfl | rfl | rfl | rfl
   ·rw [U] at G;exact G
   ·rw [a1] at G;exact G
   ·rw [a6] at G;rw [← k1];exact G
   ·rw [a7] at G;exact G
   ·rw [Z] at G;exact G
   ·rw [ab] at G;exact G
   ·rw [aE] at G;exact G
  ·cases h
 ·cases h
theorem P8 {L:aD} (h:aC Tryz.prog L):aC Tryz.prog (A9 sR kQ L):=h.bC Rj ac8
end
end Go.Proofs.YtamcpiicmfielaaGreat.L
namespace Go.Proofs.YtamcpiicmfielaaGreat.L
open Go Go.V Go.RowKit Go.Proofs.YtamcpiicmfielaaGreat.Sp Go.Proofs.YtamcpiicmfielaaGreat.F Go.Proofs.YtamcpiicmfielaaGreatW.PrintWords
open Go.Proofs (Tryz.prog)
noncomputable section
abbrev fT:List Bool:= [false,true,false,true,true,true,true,true,true]
def iS (a:ByteArray) (zs:List Int) (r:ByteArray) (i:Int) (G I J M O U Z ab:ByteArray):List AV:=ao 76 [(0, .val (.string a)),(6, .ptr 0 0),(8, .sl false 5 1 0 zs.length),(9, .val (.string r)),(10, .val (.int .i64 i))]
def ir (a:ByteArray) (zs:List Int) (r:ByteArray) (i:Int) (G I J M O U Z ab:ByteArray):Hp:= [.row (.cells [.val (.string G), .val (.string I), .val (.string J), .val (.string M), .val (.string O), .val (.string U), .val (.string Z), .val (.string ab)]) 176 .live, .row (.ints .u8 zs) 5 .live]
theorem Rk:aI Tryz.prog 161 fT=some (.loop (lb 161 fT)):=by kernel_rfl
theorem S6:aI Tryz.prog 161 (false :: fT)=some (lb 161 fT):=by kernel_rfl
theorem Nn (S:Sg) (a6:HZ) (a1:Hu) (a:ByteArray) (zs:List Int) (r:ByteArray) (i:Int) (G I J M O U Z ab:ByteArray):letI aE:=(S.mg (S.vs (rZ r (dP a i.toNat (i+1).toNat))));
  (aP Tryz.prog ⟨fG S,az,A9 a6 a1 aq⟩ 161 [0,6,8,9,10] (lb 161 fT) (false :: fT) (iS a zs r i G I J M O U Z ab) (ir a zs r i G I J M O U Z ab)=(bif decide (i < (↑a.size:Int)) then (bif ah IntKind.i64 (i+1) then (bif decide (0≤i)&&decide (i≤i+1)&&decide (i+1≤(↑a.size:Int)) then (bif decide (r.size+(dP a i.toNat (i+1).toNat).size≤9223372036854775807) then (bif decide (zs.length=zs.length)&&a6 a zs aE i (0:Int) (7:Int) G I J M O U Z ab then (bif decide (0≤i)&&decide (i < (↑zs.length:Int)) then (bif decide (0+i.toNat*1 < zs.length) then (bif ah IntKind.i64 (i+1) then some (.normal,ao 76 [(0,(.val (.string a))),(6,(.ptr 0 0)),(8,(.sl false 5 1 0 zs.length)),(9,(.val (.string ((a1 a zs aE i (0:Int) (7:Int) G I J M O U Z ab).fst)))),(10,(.val (.int .i64 (i+1))))], [(.row (.cells [(.val (.string G)),(.val (.string I)),(.val (.string J)),(.val (.string M)),(.val (.string O)),(.val (.string U)),(.val (.string Z)),(.val (.string ab))]) 176 .live),(.row (.ints .u8 (zs.set (0+i.toNat*1) (IntKind.u8.wrap (a1 a zs aE i (0:Int) (7:Int) G I J M O U Z ab).snd.fst))) 5 .live)]) else none) else none) else none) else none) else none) else none) else none) else some ((.exit 2),ao 76 [(0,(.val (.string a))),(6,(.ptr 0 0)),(8,(.sl false 5 1 0 zs.length)),(9,(.val (.string r))),(10,(.val (.int .i64 i)))], [(.row (.cells [(.val (.string G)),(.val (.string I)),(.val (.string J)),(.val (.string M)),(.val (.string O)),(.val (.string U)),(.val (.string Z)),(.val (.string ab))]) 176 .live),(.row (.ints .u8 zs) 5 .live)]))):=by kernel_rfl
theorem Og {a:ByteArray} {zs:List Int} {r:ByteArray} {i:Int} {G I J M O U Z ab:ByteArray} {e:Ex} {T:List AV} {H:Hp} (h:aP Tryz.prog ⟨fG aa,az,A9 sR kQ aq⟩ 161 [0,6,8,9,10] (lb 161 fT) (false :: fT) (iS a zs r i G I J M O U Z ab) (ir a zs r i G I J M O U Z ab)=some (e,T,H)):V.Ends Tryz.prog false 0 0 (lb 161 fT) (iS a zs r i G I J M O U Z ab) (ir a zs r i G I J M O U Z ab) e T H:=
 bK zY (P8 aC.none).ok mixed S6 h
def w8 (zs:List Int):List UInt8:=zs.map fun z=>UInt8.ofNat z.toNat
def IP (B:Nat) (G I J M O U Z ab:ByteArray):Prop:=G=av (1*B)∧I=av (2*B)∧J=av (4*B)∧M=av (8*B)∧O=av (16*B)∧U=av (32*B)∧Z=av (64*B)∧ab=av (128*B)
theorem aea (R:Nat) (a:ByteArray) (i:Nat) (h:i < a.size):vS (rZ (av R) (dP a i (i+1)))=R*256+(aT a i).toNat∧(dP a i (i+1)).size=1:=by
 have G:i < a.data.toList.length:=by rw [← lR];exact h
 have e:(dP a i (i+1)).data.toList= [a.data.toList[i]]:=by
  show ((a.data.toList.drop i).take (i+1 - i))=_
  rw [List.drop_eq_getElem_cons G,show i+1 - i=1 by omega]
  rfl
 constructor
 ·show vB ((av R).data.toList ++ (dP a i (i+1)).data.toList)=_
  rw [e,vZ]
  have I:vB (av R).data.toList=R:=jg R
  rw [I]
  unfold aT
  rw [List.getD_eq_getElem?_getD,List.getElem?_eq_getElem G,Option.getD_some]
  omega
 ·rw [lR,e];rfl
theorem aei (zs:List Int) (q:Nat) (G:q < 256):vB (w8 (zs ++ [(q:Int)]))=vB (w8 zs)*256+q:=by
 unfold w8
 rw [List.map_append,List.map_cons,List.map_nil,vZ,Int.toNat_natCast,UInt8.toNat_ofNat']
 omega
theorem take_set (zs:List Int) (i:Nat) (v:Int) (h:i < zs.length):(zs.set i v).take (i+1)=zs.take i ++ [v]:=by
 rw [List.take_succ_eq_append_getElem (by rw [List.length_set];exact h),List.getElem_set_self,List.take_set_of_le (Nat.le_refl i)]
def uw (a:ByteArray) (zs:List Int) (r:ByteArray) (i:Int) (G I J M O U Z ab:ByteArray):Prop:=∃ B:Nat,0 < B∧bs (256*B)≤8796093022208∧IP B G I J M O U Z ab∧i=0∧r=av 0∧zs.length=a.size∧a.size≤8796093022208
def yA (a:ByteArray) (zs:List Int) (r:ByteArray) (i:Int) (G I J M O U Z ab:ByteArray) (ρ:List Int×ByteArray×Int):Prop:=ρ.1.length=a.size∧vB (w8 ρ.1)=vS a / vS G∧ρ.2.1=av (vS a % vS G)
theorem UU {A B R c q:Nat} (G:0 < B) (J:R=A % B) (U:q=A / B) (ab:c < 256):(A*256+c) / B=q*256+(R*256+c) / B∧(A*256+c) % B=(R*256+c) % B∧(R*256+c) / B < 256∧R*256+c < 256*B:=by
 have M:A=B*q+R:=by rw [U,J];exact (Nat.div_add_mod A B).symm
 have Z:R < B:=by rw [J];exact Nat.mod_lt _ G
 have O:A*256+c=(R*256+c)+B*(q*256):=by rw [M,Nat.add_mul,Nat.mul_assoc];omega
 have I:R*256+c < 256*B:=by omega
 rw [O,Nat.add_mul_div_left _ _ G,Nat.add_mul_mod_self_left]
 exact ⟨by omega,rfl,(Nat.div_lt_iff_lt_mul G).2 I,I⟩
theorem Vo (a G J M O U Z ab aE:ByteArray) (B:Nat) (b0:0 < B) (hb:bs (256*B)≤8796093022208) (dx:IP B G J M O U Z ab aE) (ha:a.size≤8796093022208) (k:Nat):∀ (i R:Nat) (zs:List Int),i+k=a.size→zs.length=a.size→R=vB (a.data.toList.take i) % B→vB (w8 (zs.take i))=vB (a.data.toList.take i) / B→
  ∃ ρ:List Int×ByteArray×Int,aA Tryz.prog (lb 161 fT) (iS a zs (av R) i G J M O U Z ab aE) (ir a zs (av R) i G J M O U Z ab aE) (.exit 2) (iS a ρ.1 ρ.2.1 ρ.2.2 G J M O U Z ab aE) (ir a ρ.1 ρ.2.1 ρ.2.2 G J M O U Z ab aE)∧ρ.1.length=a.size∧vB (w8 ρ.1)=vS a / B∧ρ.2.1=av (vS a % B):=by
 induction k with
 | zero=>
  intro i R zs hi a6 a1 I
  have c6:i=a.size:=by omega
  subst c6
  have e:a.data.toList.take a.size=a.data.toList:=List.take_of_length_le (by rw [← lR];exact Nat.le_refl _)
  rw [e] at a1 I
  rw [List.take_of_length_le (by omega)] at I
  refine ⟨(zs,av R,(a.size:Int)), .last (Og ?_) (by intro h;cases h),a6,I,by rw [a1];rfl⟩
  rw [Nn,dF (show ¬ ((a.size:Int) < a.size) by omega)]
  rfl
 | succ k dy=>
  intro i R zs hi a6 a1 I
  have b1:i < a.size:=by omega
  obtain ⟨c1,c2⟩:=aea R a i b1
  have c4:=lj a i
  obtain ⟨c,c5⟩:∃ c:Nat,aT a i=c:= ⟨(aT a i).toNat,by omega⟩
  have c7:=qa a i b1
  rw [c5] at c1 c4 c7
  rw [Int.toNat_natCast] at c1
  obtain ⟨d1,b4,a7,b5⟩:=UU (c:=c) b0 a1 I (by omega)
  have bD:vB (a.data.toList.take (i+1))=vB (a.data.toList.take i)*256+c:=by omega
  rw [I] at d1
  obtain ⟨ρ,k1,ea⟩:=dy (i+1) ((R*256+c) % B) (zs.set i (((R*256+c) / B:Nat):Int)) (by omega) (by rw [List.length_set];exact a6) (by rw [bD,b4]) (by rw [take_set _ _ _ (by omega),aei _ _ a7,bD,d1,I])
  refine ⟨ρ, .more (Og ?_) k1,ea⟩
  obtain ⟨bx,g1,g2,b7,ch,ct,c0,c3⟩:=dx
  have b2:uv a zs (av (R*256+c)) (i:Int) 0 7 G J M O U Z ab aE:= ⟨R*256+c,B,rfl,rfl,rfl,b5,hb,bx,g1,g2,b7,ch,ct,c0,c3⟩
  obtain ⟨_,p1,p2⟩:=Ms _ _ _ _ _ _ _ _ _ _ _ _ _ _ b2
  have eb:vS G=B:=by rw [bx];exact (eX (1*B)).trans (Nat.one_mul B)
  have ec:vS (av (R*256+c))=R*256+c:=eX _
  rw [eb,ec] at p1 p2
  have b3:=Nn aa sR kQ a zs (av R) i G J M O U Z ab aE
  have e1:((i:Int)+1).toNat=i+1:=by omega
  have b6:aa.mg (aa.vs (rZ (av R) (dP a i (i+1))))=av (R*256+c):=by
   have:aa.vs (rZ (av R) (dP a i (i+1)))=R*256+c:=c1
   rw [this];rfl
  have ed:R < B:=by rw [a1];exact Nat.mod_lt _ b0
  have eg:bs R≤8796093022208:=Nat.le_trans (dH (by omega)) hb
  rw [e1,Int.toNat_natCast,b6,p1,p2,Nat.zero_add,Nat.mul_one,TX _ _ _ _ _ _ _ _ _ _ _ _ _ _ b2,dT (show (i:Int) < a.size by omega),aJ (z:=(i:Int)+1) (by omega),dT (show (0:Int)≤i by omega),dT (show (i:Int)≤i+1 by omega),dT (show (i:Int)+1≤a.size by omega),dT (show (av R).size+(dP a i (i+1)).size≤9223372036854775807 by rw [c2,rS];omega),dT (show zs.length=zs.length from rfl),dT (show (i:Int) < zs.length by omega),dT (show i < zs.length by omega),kD,Nat.mod_eq_of_lt a7] at b3
  rw [b3]
  unfold iS ir
  rw [List.length_set]
  rfl
theorem Yb (a:ByteArray) (zs:List Int) (r:ByteArray) (i:Int) (G I J M O U Z ab:ByteArray) (h:uw a zs r i G I J M O U Z ab):∃ ρ:List Int×ByteArray×Int,
  aA Tryz.prog (lb 161 fT) (iS a zs r i G I J M O U Z ab) (ir a zs r i G I J M O U Z ab) (.exit 2) (iS a ρ.1 ρ.2.1 ρ.2.2 G I J M O U Z ab) (ir a ρ.1 ρ.2.1 ρ.2.2 G I J M O U Z ab)∧yA a zs r i G I J M O U Z ab ρ:=by
 obtain ⟨B,a1,hb,aE,rfl,rfl,a6,ha⟩:=h
 have a7:vS G=B:=by rw [aE.1];exact (eX (1*B)).trans (Nat.one_mul B)
 unfold yA
 rw [a7]
 exact Vo a G I J M O U Z ab B a1 hb aE ha a.size 0 0 zs (by omega) a6 (by rw [List.take_zero];exact (Nat.zero_mod B).symm) (by rw [List.take_zero,List.take_zero];exact (Nat.zero_div B).symm)
def FQ (a6:ByteArray→List Int→ByteArray→Int→ByteArray→ByteArray→ByteArray→ByteArray→ByteArray→ByteArray→ByteArray→ByteArray→Bool) (aE:ByteArray→List Int→ByteArray→Int→ByteArray→ByteArray→ByteArray→ByteArray→ByteArray→ByteArray→ByteArray→ByteArray→List Int×ByteArray×Int) (T:List AV) (H:Hp):Option (Bool×Ex×List AV×Hp):=
 match al T 0,al T 6,al T 8,al T 9,al T 10,H with
 | .val (.string a), .ptr 0 0, .sl false 5 1 0 a1, .val (.string r), .val (.int .i64 i), [.row (.cells [.val (.string G), .val (.string I), .val (.string J), .val (.string M), .val (.string O), .val (.string U), .val (.string Z), .val (.string ab)]) 176 .live, .row (.ints .u8 zs) 5 .live]=>bif T.length==76 then some (decide (a1=zs.length)&&a6 a zs r i G I J M O U Z ab, .exit 2,iS a ((aE a zs r i G I J M O U Z ab).1) ((aE a zs r i G I J M O U Z ab).2.1) ((aE a zs r i G I J M O U Z ab).2.2) G I J M O U Z ab,ir a ((aE a zs r i G I J M O U Z ab).1) ((aE a zs r i G I J M O U Z ab).2.1) ((aE a zs r i G I J M O U Z ab).2.2) G I J M O U Z ab) else none
 | _,_,_,_,_,_=>none
abbrev H3:Type:=ByteArray→List Int→ByteArray→Int→ByteArray→ByteArray→ByteArray→ByteArray→ByteArray→ByteArray→ByteArray→ByteArray→Bool
abbrev Hv:Type:=ByteArray→List Int→ByteArray→Int→ByteArray→ByteArray→ByteArray→ByteArray→ByteArray→ByteArray→ByteArray→ByteArray→List Int×ByteArray×Int
def Ba (G:H3) (I:Hv) (L:aD):aD:=bu 0 161 fT [0,6,8,9,10] (FQ G I) L
def jR (a:ByteArray) (zs:List Int) (r:ByteArray) (i:Int) (G I J M O U Z ab:ByteArray):List Int×ByteArray×Int:=Classical.epsilon fun ρ=>aA Tryz.prog (lb 161 fT) (iS a zs r i G I J M O U Z ab) (ir a zs r i G I J M O U Z ab) (.exit 2) (iS a (ρ.1) (ρ.2.1) (ρ.2.2) G I J M O U Z ab) (ir a (ρ.1) (ρ.2.1) (ρ.2.2) G I J M O U Z ab)∧yA a zs r i G I J M O U Z ab ρ
theorem Mt (a:ByteArray) (zs:List Int) (r:ByteArray) (i:Int) (G I J M O U Z ab:ByteArray) (h:uw a zs r i G I J M O U Z ab):aA Tryz.prog (lb 161 fT) (iS a zs r i G I J M O U Z ab) (ir a zs r i G I J M O U Z ab) (.exit 2) (iS a ((jR a zs r i G I J M O U Z ab).1) ((jR a zs r i G I J M O U Z ab).2.1) ((jR a zs r i G I J M O U Z ab).2.2) G I J M O U Z ab) (ir a ((jR a zs r i G I J M O U Z ab).1) ((jR a zs r i G I J M O U Z ab).2.1) ((jR a zs r i G I J M O U Z ab).2.2) G I J M O U Z ab)∧yA a zs r i G I J M O U Z ab (jR a zs r i G I J M O U Z ab):=Classical.epsilon_spec (Yb a zs r i G I J M O U Z ab h)
def sS (a:ByteArray) (zs:List Int) (r:ByteArray) (i:Int) (G I J M O U Z ab:ByteArray):Bool:= @decide (uw a zs r i G I J M O U Z ab) (Classical.propDecidable _)
theorem TY (a:ByteArray) (zs:List Int) (r:ByteArray) (i:Int) (G I J M O U Z ab:ByteArray) (h:uw a zs r i G I J M O U Z ab):sS a zs r i G I J M O U Z ab=true:= @decide_eq_true _ (Classical.propDecidable _) h
theorem ac9 (T:List AV) (H:Hp) (e:Ex) (J:List AV) (I:Hp) (h:FQ sS jR T H=some (true,e,J,I)):V.Ends Tryz.prog false 0 0 (.loop (lb 161 fT)) T H e J I:=by
 unfold FQ at h
 split at h
 ·rename_i a b7 r i bD b0 b1 b2 b3 b4 b5 b6 zs U ab aE a1 Z
  rw [Bool.cond_eq_ite] at h
  split at h
  ·rename_i M
   rw [beq_iff_eq] at M
   simp only [Option.some.injEq,Prod.mk.injEq,Bool.and_eq_true,decide_eq_true_eq] at h
   obtain ⟨⟨k1,a7⟩,rfl,rfl,rfl⟩:=h
   have bx:= @of_decide_eq_true _ (Classical.propDecidable _) a7
   refine Ends.pre (Mt a zs r i bD b0 b1 b2 b3 b4 b5 b6 bx).1.ends (fun α B w D ch a6=>bw M (fun p O y G=> ?_) a6)
   simp only [List.mem_cons,List.not_mem_nil,or_false] at O
   rcases O with rfl | rfl | rfl | rfl | rfl
   ·rw [U] at G;exact G
   ·rw [ab] at G;exact G
   ·rw [aE] at G;rw [← k1];exact G
   ·rw [a1] at G;exact G
   ·rw [Z] at G;exact G
  ·cases h
 ·cases h
theorem P9 {L:aD} (h:aC Tryz.prog L):aC Tryz.prog (Ba sS jR L):=h.bC Rk ac9
theorem U1 (S:Sg) (aE:H3) (a1:Hv) (a b:ByteArray):letI U:=(S.mg (S.vs b+S.vs b));letI J:=(S.mg (S.vs U+S.vs U));letI M:=(S.mg (S.vs J+S.vs J));letI I:=(S.mg (S.vs M+S.vs M));letI ab:=(List.replicate (↑a.size:Int).toNat (0:Int));letI O:=(S.mg (S.vs I+S.vs I));letI G:=(S.mg (S.vs O+S.vs O));letI Z:=(a1 a ab (ByteArray.mk #[]) (0:Int) b U J M I O G (S.mg (S.vs G+S.vs G)));
  (aG Tryz.prog ⟨fG S,az,Ba aE a1 aq⟩ 10 10 161 [.val (.string a), .val (.string b)]=(bif S.ok b&&S.ok b then (bif S.ok U&&S.ok U then (bif S.ok J&&S.ok J then (bif S.ok M&&S.ok M then (bif S.ok I&&S.ok I then (bif S.ok O&&S.ok O then (bif S.ok G&&S.ok G then (bif decide ((↑a.size:Int)≤(↑a.size:Int))&&decide (1*(↑a.size:Int)≤281474976710656)&&decide ((↑a.size:Int)≤9223372036854775807) then (bif decide ((↑a.size:Int).toNat=ab.length)&&aE a ab (ByteArray.mk #[]) (0:Int) b U J M I O G (S.mg (S.vs G+S.vs G)) then (bif decide (0+Z.fst.length*1≤Z.fst.length) then some (.tup [(.val (.string (S.mg (S.vs (ofBytes (List.take (Z.fst.length*1) (List.drop 0 Z.fst))))))),(.val (.string (Z.snd.fst)))]) else none) else none) else none) else none) else none) else none) else none) else none) else none) else none)):=by kernel_rfl
end
end Go.Proofs.YtamcpiicmfielaaGreat.L
namespace Go.Proofs.YtamcpiicmfielaaGreat.L
open Go Go.V Go.RowKit Go.Proofs.YtamcpiicmfielaaGreat.Sp Go.Proofs.YtamcpiicmfielaaGreat.F Go.Proofs.YtamcpiicmfielaaGreatW.PrintWords
open Go.Proofs (Tryz.prog)
noncomputable section
def lC (s:ByteArray):Bool:=decide (s.size≤4398046511104)
def Fl (S:Sg) (args:List AV):Option (Bool×AV):=match args with | [.val (.string s), .val (.string t)]=>some (lC s&&lC t&&aF t (S.mg (S.vs t))&&decide (0 < S.vs t), .tup [.val (.string (S.mg (S.vs s / S.vs t))), .val (.string (S.mg (S.vs s % S.vs t)))]) | _=>none
theorem Vu:Entry Tryz.prog 161 (Fl aa):=by
 refine aZ (E:= ⟨fG aa,az,Ba sS jR aq⟩) (u:=10) (d:=10) zY (P9 aC.none).ok mixed (by kernel_rfl) (fun args r h=> ?_)
 unfold Fl at h
 split at h
 ·rename_i a b
  simp only [Option.some.injEq,Prod.mk.injEq,Bool.and_eq_true,decide_eq_true_eq,r4] at h
  obtain ⟨⟨⟨⟨J,I⟩,b1⟩,b2⟩,rfl⟩:=h
  have J:a.size≤4398046511104:=of_decide_eq_true J
  have I:b.size≤4398046511104:=of_decide_eq_true I
  have G:=U1 aa sS jR a b
  have b5:=oG b
  generalize hb:aa.vs b=B at*
  subst b1
  have U:∀ n:Nat,aa.vs (aa.mg n)=n:=zV
  have Z:B+B=2*B:=by omega
  have ab:2*B+2*B=4*B:=by omega
  have aE:4*B+4*B=8*B:=by omega
  have a1:8*B+8*B=16*B:=by omega
  have a6:16*B+16*B=32*B:=by omega
  have a7:32*B+32*B=64*B:=by omega
  have bx:64*B+64*B=128*B:=by omega
  have M:bs (256*B)≤8796093022208:=by
   have:=wS 256 B
   have I:bs 256≤2:=gH (by decide)
   omega
  have cH:∀ n:Nat,n≤256*B→aa.ok (aa.mg n)=true:=fun n b3=>ej (Nat.le_trans (dH b3) M)
  have O:uw a (List.replicate a.size 0) (ByteArray.mk #[]) 0 (aa.mg B) (aa.mg (2*B)) (aa.mg (4*B)) (aa.mg (8*B)) (aa.mg (16*B)) (aa.mg (32*B)) (aa.mg (64*B)) (aa.mg (128*B)):=
   ⟨B,b2,M, ⟨by rw [Nat.one_mul];rfl,rfl,rfl,rfl,rfl,rfl,rfl,rfl⟩,rfl,lA.symm,by simp,by omega⟩
  obtain ⟨_,p1,p2,p3⟩:=Mt _ _ _ _ _ _ _ _ _ _ _ _ O
  have b4:vS (aa.mg B)=B:=U B
  rw [b4] at p2 p3
  simp only [U,Z,ab,aE,a1,a6,a7,bx,Int.toNat_natCast] at G
  rw [TY _ _ _ _ _ _ _ _ _ _ _ _ O,cH B (by omega),cH (2*B) (by omega),cH (4*B) (by omega),cH (8*B) (by omega),cH (16*B) (by omega),cH (32*B) (by omega),cH (64*B) (by omega)] at G
  generalize jR a (List.replicate a.size 0) (ByteArray.mk #[]) 0 (aa.mg B) (aa.mg (2*B)) (aa.mg (4*B)) (aa.mg (8*B)) (aa.mg (16*B)) (aa.mg (32*B)) (aa.mg (64*B)) (aa.mg (128*B))=ρ at*
  have e1:List.take (ρ.1.length*1) (List.drop 0 ρ.1)=ρ.1:=by rw [List.drop_zero,Nat.mul_one,List.take_length]
  have bD:aa.vs (ofBytes ρ.1)=aa.vs a / B:=p2
  have b0:ρ.2.1=aa.mg (aa.vs a % B):=p3
  rw [e1,bD,b0,dT (show (a.size:Int)≤a.size by omega),dT (show (1:Int)*a.size≤281474976710656 by omega),dT (show (a.size:Int)≤9223372036854775807 by omega),dT (show a.size=(List.replicate a.size (0:Int)).length by simp),dT (show 0+ρ.1.length*1≤ρ.1.length by omega)] at G
  exact G
 ·cases h
def qk (S:Sg):FuncId→List AV→Option (Bool×AV):=au 161 (Fl S) (au 160 (og S) (au 162 (vU S) (au 124 (kC S) aM)))
theorem Ab:bf Tryz.prog (qk aa):=((((aK _).add tA).add J7).add qJ).add Vu
end
end Go.Proofs.YtamcpiicmfielaaGreat.L
namespace Go.Proofs.YtamcpiicmfielaaGreat.L
open Go Go.V Go.RowKit Go.Proofs.YtamcpiicmfielaaGreat.Sp Go.Proofs.YtamcpiicmfielaaGreat.F Go.Proofs.YtamcpiicmfielaaGreatW.PrintWords
open Go.Proofs (Tryz.prog)
noncomputable section
abbrev gb:List Bool:= [false,false,true,true]
def kg (x y:ByteArray) (G:Bool) (I:ByteArray):List AV:=ao 53 [(4, .ptr 0 0),(5, .val (.string x)),(6, .val (.string y))]
def jB (x y:ByteArray) (G:Bool) (I:ByteArray):Hp:= [.row (.cells [.val (.bool G), .val (.string I)]) 81 .live]
theorem RI:aI Tryz.prog 128 gb=some (.loop (lb 128 gb)):=by kernel_rfl
theorem Tt:aI Tryz.prog 128 (false :: gb)=some (lb 128 gb):=by kernel_rfl
theorem abc (S:Sg) (x y:ByteArray) (G:Bool) (I:ByteArray):aP Tryz.prog ⟨qk S,az,aq⟩ 128 [4,5,6] (lb 128 gb) (false :: gb) (kg x y G I) (jB x y G I)=
  (bif !aF y (ByteArray.mk #[]) then (bif decide (7 < (↑x.size:Int)) then (bif lC x&&lC y&&aF y (S.mg (S.vs y))&&decide (0 < S.vs y) then some (.normal,ao 53 [(4,(.ptr 0 0)),(5,(.val (.string y))),(6,(.val (.string (S.mg (S.vs x % S.vs y)))))], [(.row (.cells [(.val (.bool G)),(.val (.string I))]) 81 .live)]) else none) else (bif decide (7 < (↑y.size:Int)) then (bif lC x&&lC y&&aF y (S.mg (S.vs y))&&decide (0 < S.vs y) then some (.normal,ao 53 [(4,(.ptr 0 0)),(5,(.val (.string y))),(6,(.val (.string (S.mg (S.vs x % S.vs y)))))], [(.row (.cells [(.val (.bool G)),(.val (.string I))]) 81 .live)]) else none) else some ((.exit 0),ao 53 [(4,(.ptr 0 0)),(5,(.val (.string x))),(6,(.val (.string y)))], [(.row (.cells [(.val (.bool G)),(.val (.string I))]) 81 .live)]))) else some ((.exit 0),ao 53 [(4,(.ptr 0 0)),(5,(.val (.string x))),(6,(.val (.string y)))], [(.row (.cells [(.val (.bool G)),(.val (.string I))]) 81 .live)])):=by kernel_rfl
theorem E2 {x y:ByteArray} {G:Bool} {I:ByteArray} {e:Ex} {T:List AV} {H:Hp} (h:aP Tryz.prog ⟨qk aa,az,aq⟩ 128 [4,5,6] (lb 128 gb) (false :: gb) (kg x y G I) (jB x y G I)=some (e,T,H)):V.Ends Tryz.prog false 0 0 (lb 128 gb) (kg x y G I) (jB x y G I) e T H:=
 bK Ab aO mixed Tt h
theorem LD (n:Nat):aF (av n) (ByteArray.mk #[])=decide (n=0):=qZ n
theorem C8 {n:Nat} (h:bs n≤4398046511104):lC (av n)=true:=decide_eq_true (by rw [rS];exact h)
theorem wU {n:Nat} (h:bs n≤7):n < 72057594037927936:=by
 have:=nz n
 exact Nat.lt_of_lt_of_le this (Nat.pow_le_pow_right (by decide:0 < 256) h)
theorem aaO (J:Bool) (M:ByteArray) (k:Nat):∀ a b:Nat,b=k→bs a≤4398046511104→bs b≤4398046511104→∃ I G:Nat,aA Tryz.prog (lb 128 gb) (kg (av a) (av b) J M) (jB (av a) (av b) J M) (.exit 0) (kg (av I) (av G) J M) (jB (av I) (av G) J M)∧Nat.gcd I G=Nat.gcd a b∧(G=0∨(bs I≤7∧bs G≤7)):=by
 induction k using Nat.strongRecOn with
 | _ k a7=>
  intro a b hb aE Z
  have U:=abc aa (av a) (av b) J M
  simp only [LD,eX,rS] at U
  by_cases O:b=0
  ·refine ⟨a,b, .last (E2 ?_) (by intro h;cases h),rfl, .inl O⟩
   rw [U,dT O]
   rfl
  ·by_cases a1:bs a≤7∧bs b≤7
   ·refine ⟨a,b, .last (E2 ?_) (by intro h;cases h),rfl, .inr a1⟩
    rw [U,dF O,dF (show ¬ (7:Int) < (bs a:Nat) by omega),dF (show ¬ (7:Int) < (bs b:Nat) by omega)]
    rfl
   ·have a6:a % b < b:=Nat.mod_lt _ (by omega)
    have b0:=dH (Nat.le_of_lt a6)
    obtain ⟨I,G,k1,bx,bD⟩:=a7 (a % b) (by omega) b (a % b) rfl Z (by omega)
    refine ⟨I,G, .more (E2 ?_) k1, ?_,bD⟩
    ·have e:aF (av b) (aa.mg b)=true:=kA _
     rw [U,dF O,C8 aE,C8 Z,e,dT (show 0 < b by omega)]
     by_cases ab:(7:Int) < (bs a:Nat)
     ·rw [dT ab];rfl
     ·rw [dF ab,dT (show (7:Int) < (bs b:Nat) by omega)];rfl
    ·rw [bx,Nat.gcd_comm b,← Nat.gcd_rec,Nat.gcd_comm]
def uR (x y:ByteArray) (G:Bool) (I:ByteArray):Prop:=∃ a b:Nat,x=av a∧y=av b∧bs a≤4398046511104∧bs b≤4398046511104
def DE (x y:ByteArray) (G:Bool) (I:ByteArray) (r:ByteArray×ByteArray):Prop:=∃ a b:Nat,r.1=av a∧r.2=av b∧Nat.gcd a b=Nat.gcd (vS x) (vS y)∧(b=0∨(bs a≤7∧bs b≤7))
theorem Yy (x y:ByteArray) (G:Bool) (I:ByteArray) (h:uR x y G I):∃ r:ByteArray×ByteArray,aA Tryz.prog (lb 128 gb) (kg x y G I) (jB x y G I) (.exit 0) (kg r.1 r.2 G I) (jB r.1 r.2 G I)∧DE x y G I r:=by
 obtain ⟨a,b,rfl,rfl,O,U⟩:=h
 obtain ⟨J,M,k1,Z,ab⟩:=aaO G I b a b rfl O U
 refine ⟨(av J,av M),k1,J,M,rfl,rfl, ?_,ab⟩
 rw [Z,show vS (av a)=a from eX a,show vS (av b)=b from eX b]
def Ge (M:ByteArray→ByteArray→Bool→ByteArray→Bool) (J:ByteArray→ByteArray→Bool→ByteArray→ByteArray×ByteArray) (T:List AV) (H:Hp):Option (Bool×Ex×List AV×Hp):=
 match al T 4,al T 5,al T 6,H with
 | .ptr 0 0, .val (.string x), .val (.string y), [.row (.cells [.val (.bool G), .val (.string I)]) 81 .live]=>bif T.length==53 then some (M x y G I, .exit 0,kg ((J x y G I).1) ((J x y G I).2) G I,jB ((J x y G I).1) ((J x y G I).2) G I) else none
 | _,_,_,_=>none
abbrev Ik:Type:=ByteArray→ByteArray→Bool→ByteArray→Bool
abbrev HL:Type:=ByteArray→ByteArray→Bool→ByteArray→ByteArray×ByteArray
def Bq (G:Ik) (I:HL) (L:aD):aD:=bu 0 128 gb [4,5,6] (Ge G I) L
def mP (x y:ByteArray) (G:Bool) (I:ByteArray):ByteArray×ByteArray:=Classical.epsilon fun ρ=>aA Tryz.prog (lb 128 gb) (kg x y G I) (jB x y G I) (.exit 0) (kg (ρ.1) (ρ.2) G I) (jB (ρ.1) (ρ.2) G I)∧DE x y G I ρ
theorem MJ (x y:ByteArray) (G:Bool) (I:ByteArray) (h:uR x y G I):aA Tryz.prog (lb 128 gb) (kg x y G I) (jB x y G I) (.exit 0) (kg ((mP x y G I).1) ((mP x y G I).2) G I) (jB ((mP x y G I).1) ((mP x y G I).2) G I)∧DE x y G I (mP x y G I):=Classical.epsilon_spec (Yy x y G I h)
def sZ (x y:ByteArray) (G:Bool) (I:ByteArray):Bool:= @decide (uR x y G I) (Classical.propDecidable _)
theorem Un (x y:ByteArray) (G:Bool) (I:ByteArray) (h:uR x y G I):sZ x y G I=true:= @decide_eq_true _ (Classical.propDecidable _) h
theorem ady (T:List AV) (H:Hp) (e:Ex) (J:List AV) (I:Hp) (h:Ge sZ mP T H=some (true,e,J,I)):V.Ends Tryz.prog false 0 0 (.loop (lb 128 gb)) T H e J I:=by
 unfold Ge at h
 split at h
 ·rename_i x y a6 a7 U Z ab
  rw [Bool.cond_eq_ite] at h
  split at h
  ·rename_i M
   rw [beq_iff_eq] at M
   simp only [Option.some.injEq,Prod.mk.injEq,Bool.and_eq_true,decide_eq_true_eq] at h
   obtain ⟨k1,rfl,rfl,rfl⟩:=h
   have a1:= @of_decide_eq_true _ (Classical.propDecidable _) k1
   refine Ends.pre (MJ x y a6 a7 a1).1.ends (fun α B w D bx aE=>bw M (fun p O y G=> ?_) aE)
   simp only [List.mem_cons,List.not_mem_nil,or_false] at O
   rcases O with rfl | rfl | rfl
   ·rw [U] at G;exact G
   ·rw [Z] at G;exact G
   ·rw [ab] at G;exact G
  ·cases h
 ·cases h
theorem Qu {L:aD} (h:aC Tryz.prog L):aC Tryz.prog (Bq sZ mP L):=h.bC RI ady
abbrev gd:List Bool:= [false,false,true,true,true,true,true]
def ki (m n:Int) (G:Bool) (I:ByteArray):List AV:=ao 53 [(4, .ptr 0 0),(9, .val (.int .i64 m)),(10, .val (.int .i64 n))]
def jC (m n:Int) (G:Bool) (I:ByteArray):Hp:= [.row (.cells [.val (.bool G), .val (.string I)]) 81 .live]
theorem RJ:aI Tryz.prog 128 gd=some (.loop (lb 128 gd)):=by kernel_rfl
theorem Tu:aI Tryz.prog 128 (false :: gd)=some (lb 128 gd):=by kernel_rfl
theorem abd (m n:Int) (G:Bool) (I:ByteArray):aP Tryz.prog bg 128 [4,9,10] (lb 128 gd) (false :: gd) (ki m n G I) (jC m n G I)=
  (bif decide (0 < n) then (bif decide (n=0) then none else some (.normal,ao 53 [(4,(.ptr 0 0)),(9,(.val (.int .i64 n))),(10,(.val (.int .i64 (m.tmod n))))], [(.row (.cells [(.val (.bool G)),(.val (.string I))]) 81 .live)])) else some ((.exit 2),ao 53 [(4,(.ptr 0 0)),(9,(.val (.int .i64 m))),(10,(.val (.int .i64 n)))], [(.row (.cells [(.val (.bool G)),(.val (.string I))]) 81 .live)])):=by kernel_rfl
theorem Ot {m n:Int} {G:Bool} {I:ByteArray} {e:Ex} {T:List AV} {H:Hp} (h:aP Tryz.prog bg 128 [4,9,10] (lb 128 gd) (false :: gd) (ki m n G I) (jC m n G I)=some (e,T,H)):V.Ends Tryz.prog false 0 0 (lb 128 gd) (ki m n G I) (jC m n G I) e T H:=
 bK (aK _) aO mixed Tu h
def uS (m n:Int) (G:Bool) (I:ByteArray):Prop:=0≤m∧0≤n
def DF (m n:Int) (G:Bool) (I:ByteArray) (r:Int×Int):Prop:=r.1=(Nat.gcd m.toNat n.toNat:Nat)
theorem aaQ (G:Bool) (I:ByteArray) (k:Nat):∀ a b:Nat,b=k→∃ r:Int×Int,aA Tryz.prog (lb 128 gd) (ki a b G I) (jC a b G I) (.exit 2) (ki r.1 r.2 G I) (jC r.1 r.2 G I)∧r.1=(Nat.gcd a b:Nat):=by
 induction k using Nat.strongRecOn with
 | _ k O=>
  intro a b hb
  have J:=abd a b G I
  by_cases M:b=0
  ·refine ⟨((a:Int),(b:Int)), .last (Ot ?_) (by intro h;cases h),by rw [M,Nat.gcd_zero_right]⟩
   rw [J,dF (show ¬ (0:Int) < (b:Int) by omega)]
   rfl
  ·have Z:a % b < b:=Nat.mod_lt _ (by omega)
   obtain ⟨r,k1,U⟩:=O (a % b) (by omega) b (a % b) rfl
   refine ⟨r, .more (Ot ?_) k1,by rw [U,Nat.gcd_comm b,← Nat.gcd_rec,Nat.gcd_comm]⟩
   rw [J,dT (show (0:Int) < (b:Int) by omega),dF (show ¬ (b:Int)=0 by omega)]
   rfl
theorem Yz (m n:Int) (G:Bool) (I:ByteArray) (h:uS m n G I):∃ r:Int×Int,aA Tryz.prog (lb 128 gd) (ki m n G I) (jC m n G I) (.exit 2) (ki r.1 r.2 G I) (jC r.1 r.2 G I)∧DF m n G I r:=by
 obtain ⟨J,M⟩:=h
 obtain ⟨a,rfl⟩:=Int.eq_ofNat_of_zero_le J
 obtain ⟨b,rfl⟩:=Int.eq_ofNat_of_zero_le M
 exact aaQ G I b a b rfl
def Gf (M:Int→Int→Bool→ByteArray→Bool) (J:Int→Int→Bool→ByteArray→Int×Int) (T:List AV) (H:Hp):Option (Bool×Ex×List AV×Hp):=
 match al T 4,al T 9,al T 10,H with
 | .ptr 0 0, .val (.int .i64 m), .val (.int .i64 n), [.row (.cells [.val (.bool G), .val (.string I)]) 81 .live]=>bif T.length==53 then some (M m n G I, .exit 2,ki ((J m n G I).1) ((J m n G I).2) G I,jC ((J m n G I).1) ((J m n G I).2) G I) else none
 | _,_,_,_=>none
abbrev Il:Type:=Int→Int→Bool→ByteArray→Bool
abbrev HM:Type:=Int→Int→Bool→ByteArray→Int×Int
def Br (G:Il) (I:HM) (L:aD):aD:=bu 0 128 gd [4,9,10] (Gf G I) L
def lH (m n:Int) (G:Bool) (I:ByteArray):Int×Int:=Classical.epsilon fun ρ=>aA Tryz.prog (lb 128 gd) (ki m n G I) (jC m n G I) (.exit 2) (ki (ρ.1) (ρ.2) G I) (jC (ρ.1) (ρ.2) G I)∧DF m n G I ρ
theorem MK (m n:Int) (G:Bool) (I:ByteArray) (h:uS m n G I):aA Tryz.prog (lb 128 gd) (ki m n G I) (jC m n G I) (.exit 2) (ki ((lH m n G I).1) ((lH m n G I).2) G I) (jC ((lH m n G I).1) ((lH m n G I).2) G I)∧DF m n G I (lH m n G I):=Classical.epsilon_spec (Yz m n G I h)
def ta (m n:Int) (G:Bool) (I:ByteArray):Bool:= @decide (uS m n G I) (Classical.propDecidable _)
theorem Uo (m n:Int) (G:Bool) (I:ByteArray) (h:uS m n G I):ta m n G I=true:= @decide_eq_true _ (Classical.propDecidable _) h
theorem adz (T:List AV) (H:Hp) (e:Ex) (J:List AV) (I:Hp) (h:Gf ta lH T H=some (true,e,J,I)):V.Ends Tryz.prog false 0 0 (.loop (lb 128 gd)) T H e J I:=by
 unfold Gf at h
 split at h
 ·rename_i m n a6 a7 Z ab U
  rw [Bool.cond_eq_ite] at h
  split at h
  ·rename_i M
   rw [beq_iff_eq] at M
   simp only [Option.some.injEq,Prod.mk.injEq,Bool.and_eq_true,decide_eq_true_eq] at h
   obtain ⟨k1,rfl,rfl,rfl⟩:=h
   have a1:= @of_decide_eq_true _ (Classical.propDecidable _) k1
   refine Ends.pre (MK m n a6 a7 a1).1.ends (fun α B w D bx aE=>bw M (fun p O y G=> ?_) aE)
   simp only [List.mem_cons,List.not_mem_nil,or_false] at O
   rcases O with rfl | rfl | rfl
   ·rw [Z] at G;exact G
   ·rw [ab] at G;exact G
   ·rw [U] at G;exact G
  ·cases h
 ·cases h
theorem Qv {L:aD} (h:aC Tryz.prog L):aC Tryz.prog (Br ta lH L):=h.bC RJ adz
theorem aaP (S:Sg) (J:Ik) (O:HL) (M:Il) (U:HM) (b c:Bool) (s t:ByteArray):letI G:=(O (S.mg (S.vs s)) (S.mg (S.vs t)) false (ByteArray.mk #[]));letI I:=(U (↑(S.vs G.fst):Int) (↑(S.vs G.snd):Int) false (ByteArray.mk #[]));
  (aG Tryz.prog ⟨qk S,az,Bq J O (Br M U aq)⟩ 10 10 128 [.agg [.val (.bool b), .val (.string s)], .agg [.val (.bool c), .val (.string t)]]=(bif J (S.mg (S.vs s)) (S.mg (S.vs t)) false (ByteArray.mk #[]) then (bif aF G.snd (ByteArray.mk #[]) then some (.agg [(.val (.bool false)),(.val (.string (G.fst)))]) else (bif decide (G.fst.size≤8)&&decide (S.vs G.fst < 9223372036854775808) then (bif decide (G.snd.size≤8)&&decide (S.vs G.snd < 9223372036854775808) then (bif M (↑(S.vs G.fst):Int) (↑(S.vs G.snd):Int) false (ByteArray.mk #[]) then (bif cW I.fst then some (.agg [(.val (.bool (S.ng I.fst))),(.val (.string (S.ms I.fst)))]) else none) else none) else none) else none)) else none)):=by kernel_rfl
def zp (S:Sg) (X:Xg) (args:List AV):Option (Bool×AV):=match args with | [.agg [.val (.bool b), .val (.string s)], .agg [.val (.bool c), .val (.string t)]]=>some (X.cL s&&X.cL t,S.int (X.gcd (S.val b s) (S.val c t))) | _=>none
theorem VS (X:Xg) (aE:X.gcd=fun x y=>(Nat.gcd x.natAbs y.natAbs:Int)) (Z:X.cL=fun s=>decide (s.size≤68719476736)):Entry Tryz.prog 128 (zp aa X):=by
 refine aZ (E:= ⟨qk aa,az,Bq sZ mP (Br ta lH aq)⟩) (u:=10) (d:=10) Ab (Qu (Qv aC.none)).ok mixed (by kernel_rfl) (fun args r h=> ?_)
 unfold zp at h
 split at h
 ·rename_i b s c t
  rw [Z,aE] at h
  simp only [Option.some.injEq,Prod.mk.injEq,Bool.and_eq_true,decide_eq_true_eq] at h
  obtain ⟨⟨g1,g2⟩,rfl⟩:=h
  have M:=aaP aa sZ mP ta lH b c s t
  have k1:=oG s
  have b2:=oG t
  have O:uR (aa.mg (aa.vs s)) (aa.mg (aa.vs t)) false (ByteArray.mk #[]):= ⟨aa.vs s,aa.vs t,rfl,rfl,by omega,by omega⟩
  obtain ⟨_,a,e,q1,q2,I,a1⟩:=MJ _ _ _ _ O
  have bx:vS (aa.mg (aa.vs s))=aa.vs s:=zV _
  have v2:vS (aa.mg (aa.vs t))=aa.vs t:=zV _
  rw [bx,v2] at I
  rw [Un _ _ _ _ O,q1,q2,LD] at M
  rw [M,← la b s,← la c t]
  have ab:∀ g:Nat,aa.int (g:Int)= .agg [.val (.bool false), .val (.string (av g))]:=fun g=>tM (Int.natCast_nonneg g)
  by_cases G:e=0
  ·rw [G,Nat.gcd_zero_right] at I
   rw [dT G,← I,ab];rfl
  ·obtain ⟨a6,a7⟩:=a1.resolve_left G
   have w1:=wU a6
   have w2:=wU a7
   have bD:aa.vs (av a)=a:=eX a
   have b0:aa.vs (av e)=e:=eX e
   have U:uS (a:Int) (e:Int) false (ByteArray.mk #[]):= ⟨by omega,by omega⟩
   obtain ⟨_,J⟩:=MK _ _ _ _ U
   have J:(lH (a:Int) (e:Int) false (ByteArray.mk #[])).1=(Nat.gcd a e:Nat):=J
   have b1:Nat.gcd a e≤e:=Nat.gcd_le_right _ (by omega)
   rw [dF G,rS,rS,bD,b0,dT (show bs a≤8 by omega),dT (show bs e≤8 by omega),dT (show a < 9223372036854775808 by omega),dT (show e < 9223372036854775808 by omega),Uo _ _ _ _ U,J]
   have hi:cW ((Nat.gcd a e:Nat):Int)=true:=by
    unfold cW
    rw [Bool.and_eq_true,decide_eq_true_eq,decide_eq_true_eq]
    omega
   rw [hi,I]
   rfl
 ·cases h
end
end Go.Proofs.YtamcpiicmfielaaGreat.L
namespace Go.Proofs.YtamcpiicmfielaaGreat.L
open Go Go.V Go.RowKit Go.Proofs.YtamcpiicmfielaaGreat.Sp Go.Proofs.YtamcpiicmfielaaGreat.F Go.Proofs.YtamcpiicmfielaaGreatW.PrintWords
open Go.Proofs (Tryz.prog)
noncomputable section
def wi (S:Sg):FuncId→List AV→Option (Bool×AV):=au 130 (oa S) (au 127 (kX S) (au 163 (r9 S) (qk S)))
theorem PM:bf Tryz.prog (wi aa):=((Ab.add VY).add Cd).add tw
theorem aaI (S:Sg) (b c:Bool) (s t:ByteArray):letI ab:=(S.mg (S.vs (S.ms (S.val b s)) / S.vs (S.ms (S.val c t))));letI I:=(S.mg (S.vs (S.ms (S.val b s)) % S.vs (S.ms (S.val c t))));letI O:=(-S.val false ab);letI Z:=(S.val false (S.ms (S.val c t)) - S.val false I);letI a6:=(S.val (S.ng O) (S.ms O) - S.val (S.ng (1:Int)) (S.ms (1:Int)));letI a7:Option AV:=(bif lC (S.ms (S.val b s))&&lC (S.ms (S.val c t))&&aF (S.ms (S.val c t)) (S.mg (S.vs (S.ms (S.val c t))))&&decide (0 < S.vs (S.ms (S.val c t))) then (bif bif true then !S.ng (S.val b s)==S.ng (S.val c t) else S.ng (S.val b s)==S.ng (S.val c t) then (bif S.ok ab then (bif !aF I (ByteArray.mk #[]) then (bif S.ok (S.ms O)&&S.ok (S.ms (1:Int)) then (bif S.ok (S.ms (S.val c t))&&S.ok I then (bif S.ng (S.val c t) then (bif S.ok (S.ms Z) then some (.tup [(.agg [(.val (.bool (S.ng a6))),(.val (.string (S.ms a6)))]),(.agg [(.val (.bool (S.ng (-S.val (S.ng Z) (S.ms Z))))),(.val (.string (S.ms (-S.val (S.ng Z) (S.ms Z)))))]),(.val (.int .i64 0))]) else none) else some (.tup [(.agg [(.val (.bool (S.ng a6))),(.val (.string (S.ms a6)))]),(.agg [(.val (.bool (S.ng Z))),(.val (.string (S.ms Z)))]),(.val (.int .i64 0))])) else none) else none) else (bif S.ng (S.val c t) then (bif S.ok I then some (.tup [(.agg [(.val (.bool (S.ng O))),(.val (.string (S.ms O)))]),(.agg [(.val (.bool (S.ng (-S.val false I)))),(.val (.string (S.ms (-S.val false I))))]),(.val (.int .i64 0))]) else none) else some (.tup [(.agg [(.val (.bool (S.ng O))),(.val (.string (S.ms O)))]),(.agg [(.val (.bool false)),(.val (.string I))]),(.val (.int .i64 0))]))) else none) else (bif S.ng (S.val c t) then (bif S.ok I then some (.tup [(.agg [(.val (.bool false)),(.val (.string ab))]),(.agg [(.val (.bool (S.ng (-S.val false I)))),(.val (.string (S.ms (-S.val false I))))]),(.val (.int .i64 0))]) else none) else some (.tup [(.agg [(.val (.bool false)),(.val (.string ab))]),(.agg [(.val (.bool false)),(.val (.string I))]),(.val (.int .i64 0))]))) else none);letI aE:=(↑(S.vs (S.ms (S.val c t))):Int);letI J:=((↑(S.vs (S.ms (S.val b s))):Int).tdiv aE);letI G:=((↑(S.vs (S.ms (S.val b s))):Int).tmod aE);letI M:=(-S.val (S.ng J) (S.ms J));letI a1:=(S.val (S.ng M) (S.ms M) - S.val (S.ng (1:Int)) (S.ms (1:Int)));letI U:=(S.val false (S.ms (S.val c t)) - S.val (S.ng G) (S.ms G));
  (aG Tryz.prog ⟨wi S,az,aq⟩ 10 10 129 [.agg [.val (.bool b), .val (.string s)], .agg [.val (.bool c), .val (.string t)]]=(bif aF (S.ms (S.val c t)) (ByteArray.mk #[]) then some (.tup [(.agg [(.val (.bool false)),(.val (.string (ByteArray.mk #[])))]),(.agg [(.val (.bool false)),(.val (.string (ByteArray.mk #[])))]),(.val (.int .i64 10))]) else (bif decide ((↑(S.ms (S.val b s)).size:Int) < 8) then (bif decide ((↑(S.ms (S.val c t)).size:Int) < 8) then (bif decide ((S.ms (S.val b s)).size≤8)&&decide (S.vs (S.ms (S.val b s)) < 9223372036854775808) then (bif decide ((S.ms (S.val c t)).size≤8)&&decide (S.vs (S.ms (S.val c t)) < 9223372036854775808) then (bif decide (aE=0) then none else (bif ah IntKind.i64 J then (bif cW J then (bif decide (aE=0) then none else (bif cW G then (bif bif true then !S.ng (S.val b s)==S.ng (S.val c t) else S.ng (S.val b s)==S.ng (S.val c t) then (bif S.ok (S.ms J) then (bif !aF (S.ms G) (ByteArray.mk #[]) then (bif S.ok (S.ms M)&&S.ok (S.ms (1:Int)) then (bif S.ok (S.ms (S.val c t))&&S.ok (S.ms G) then (bif S.ng (S.val c t) then (bif S.ok (S.ms U) then some (.tup [(.agg [(.val (.bool (S.ng a1))),(.val (.string (S.ms a1)))]),(.agg [(.val (.bool (S.ng (-S.val (S.ng U) (S.ms U))))),(.val (.string (S.ms (-S.val (S.ng U) (S.ms U)))))]),(.val (.int .i64 0))]) else none) else some (.tup [(.agg [(.val (.bool (S.ng a1))),(.val (.string (S.ms a1)))]),(.agg [(.val (.bool (S.ng U))),(.val (.string (S.ms U)))]),(.val (.int .i64 0))])) else none) else none) else (bif S.ng (S.val c t) then (bif S.ok (S.ms G) then some (.tup [(.agg [(.val (.bool (S.ng M))),(.val (.string (S.ms M)))]),(.agg [(.val (.bool (S.ng (-S.val (S.ng G) (S.ms G))))),(.val (.string (S.ms (-S.val (S.ng G) (S.ms G)))))]),(.val (.int .i64 0))]) else none) else some (.tup [(.agg [(.val (.bool (S.ng M))),(.val (.string (S.ms M)))]),(.agg [(.val (.bool (S.ng G))),(.val (.string (S.ms G)))]),(.val (.int .i64 0))]))) else none) else (bif S.ng (S.val c t) then (bif S.ok (S.ms G) then some (.tup [(.agg [(.val (.bool (S.ng J))),(.val (.string (S.ms J)))]),(.agg [(.val (.bool (S.ng (-S.val (S.ng G) (S.ms G))))),(.val (.string (S.ms (-S.val (S.ng G) (S.ms G)))))]),(.val (.int .i64 0))]) else none) else some (.tup [(.agg [(.val (.bool (S.ng J))),(.val (.string (S.ms J)))]),(.agg [(.val (.bool (S.ng G))),(.val (.string (S.ms G)))]),(.val (.int .i64 0))]))) else none)) else none) else none)) else none) else none) else a7) else a7))):=by kernel_rfl
end
end Go.Proofs.YtamcpiicmfielaaGreat.L
namespace Go.Proofs.YtamcpiicmfielaaGreat.L
open Go Go.V Go.RowKit Go.Proofs.YtamcpiicmfielaaGreat.Sp Go.Proofs.YtamcpiicmfielaaGreat.F
open Go.Proofs (Tryz.prog)
noncomputable section
def zk (S:Sg) (X:Xg) (args:List AV):Option (Bool×AV):=match args with | [.agg [.val (.bool b), .val (.string s)], .agg [.val (.bool c), .val (.string t)]]=>some (X.cL s&&X.cL t, .tup [S.int (X.dq (S.val b s) (S.val c t)),S.int (X.dr (S.val b s) (S.val c t)), .val (.int .i64 (X.de (S.val c t)))]) | _=>none
theorem aec (n:Nat):aa.val false (aa.mg n)=(n:Int):=congrArg Int.ofNat (zV n)
theorem aed (z:Int):aa.val false (aa.ms z)=(z.natAbs:Int):=congrArg Int.ofNat (v7 z)
theorem YX (n:Nat):aF (aa.mg n) (ByteArray.mk #[])=decide (n=0):=qZ n
theorem div_val {x y:Int} (ab:y≠0) (Q R:Nat) (U:x.natAbs / y.natAbs=Q) (O:x.natAbs % y.natAbs=R):
  ((x < 0↔y < 0)→zq x y=Q∧zr x y=if y < 0 then -(R:Int) else R)∧(¬ (x < 0↔y < 0)→R=0→zq x y= -(Q:Int)∧zr x y=0)∧(¬ (x < 0↔y < 0)→R≠0→zq x y= -(Q:Int) - 1∧zr x y=if y < 0 then -((y.natAbs:Int) - R) else (y.natAbs:Int) - R):=by
 have Z:R < y.natAbs:=by rw [← O];exact Nat.mod_lt _ (by omega)
 have J:(x.natAbs:Int)=(y.natAbs:Int)*Q+R:=by
  rw [← U,← O,← Int.natCast_mul,← Int.natCast_add,Nat.div_add_mod]
 refine ⟨fun h=> ?_,fun h M=> ?_,fun h M=> ?_⟩
 ·apply tJ
  ·by_cases G:y < 0
   ·rw [if_pos G]
    have e1:(x.natAbs:Int)= -x:=by have:=h.2 G;omega
    have I:(y.natAbs:Int)= -y:=by omega
    rw [e1,I] at J
    grind
   ·rw [if_neg G]
    have e1:(x.natAbs:Int)=x:=by have:¬ x < 0:=fun h'=>G (h.1 h');omega
    have I:(y.natAbs:Int)=y:=by omega
    rw [e1,I] at J
    grind
  ·by_cases G:y < 0
   ·rw [if_pos G];omega
   ·rw [if_neg G];omega
 ·apply tJ
  ·by_cases G:y < 0
   ·have e1:(x.natAbs:Int)=x:=by have:¬ x < 0:=fun h'=>h ⟨fun _=>G,fun _=>h'⟩;omega
    have I:(y.natAbs:Int)= -y:=by omega
    rw [e1,I,M] at J
    grind
   ·have e1:(x.natAbs:Int)= -x:=by
     have:x < 0:=Classical.byContradiction fun h'=>h ⟨fun k=>absurd k h',fun k=>absurd k G⟩
     omega
    have I:(y.natAbs:Int)=y:=by omega
    rw [e1,I,M] at J
    grind
  ·omega
 ·apply tJ
  ·by_cases G:y < 0
   ·rw [if_pos G]
    have e1:(x.natAbs:Int)=x:=by have:¬ x < 0:=fun h'=>h ⟨fun _=>G,fun _=>h'⟩;omega
    have I:(y.natAbs:Int)= -y:=by omega
    rw [e1,I] at J
    rw [I]
    grind
   ·rw [if_neg G]
    have e1:(x.natAbs:Int)= -x:=by
     have:x < 0:=Classical.byContradiction fun h'=>h ⟨fun k=>absurd k h',fun k=>absurd k G⟩
     omega
    have I:(y.natAbs:Int)=y:=by omega
    rw [e1,I] at J
    rw [I]
    grind
  ·by_cases G:y < 0
   ·rw [if_pos G];omega
   ·rw [if_neg G];omega
theorem VQ (X:Xg) (b4:X.dq=zq) (b5:X.dr=zr) (b3:X.de=ze) (b2:X.cL=fun s=>decide (s.size≤68719476736)):Entry Tryz.prog 129 (zk aa X):=by
 refine aZ (E:= ⟨wi aa,az,aq⟩) (u:=10) (d:=10) PM aO mixed (by kernel_rfl) (fun args r h=> ?_)
 unfold zk at h
 split at h
 ·rename_i b s c t
  rw [b2,b4,b5,b3] at h
  simp only [Option.some.injEq,Prod.mk.injEq,Bool.and_eq_true,decide_eq_true_eq] at h
  obtain ⟨⟨g1,g2⟩,rfl⟩:=h
  have J:=aaI aa b c s t
  have k1:=dI b s
  have eb:=dI c t
  simp only [eW,v7,aec,aed,YX,tZ,vD] at J
  generalize aa.val b s=x at*
  generalize aa.val c t=y at*
  have z0:∀ z,aa.int z= .agg [.val (.bool (aa.ng z)), .val (.string (aa.ms z))]:=fun z=>rfl
  by_cases O:y=0
  ·rw [dT O] at J
   rw [J,O,Kk]
   have e1:zq x 0=0:=if_pos rfl
   have I:zr x 0=0:=if_pos rfl
   rw [e1,I,tM (Int.le_refl 0)]
   have b1:aa.mg (0:Int).natAbs=ByteArray.mk #[]:=lA
   rw [b1];rfl
  ·obtain ⟨Z,v2,bD⟩:=div_val (x:=x) O _ _ rfl rfl
   have c5:x.natAbs % y.natAbs < y.natAbs:=Nat.mod_lt _ (by omega)
   have c7:=Nat.mod_le x.natAbs y.natAbs
   have c4:=Nat.div_le_self x.natAbs y.natAbs
   have ct:((x.natAbs:Nat):Int).tdiv ((y.natAbs:Nat):Int)=((x.natAbs / y.natAbs:Nat):Int):=rfl
   have c0:((x.natAbs:Nat):Int).tmod ((y.natAbs:Nat):Int)=((x.natAbs % y.natAbs:Nat):Int):=rfl
   rw [ct,c0,dj x,dj y] at J
   have dx:=sI (x.natAbs+y.natAbs) 1
   have dy:=sI x.natAbs y.natAbs
   have ea:bs 1≤1:=gH (by decide)
   have pj:∀ z:Int,z.natAbs≤x.natAbs+y.natAbs+1→aa.ok (aa.ms z)=true:=fun z ab=>bS (Nat.le_trans (dH ab) (by omega))
   have yw:∀ n:Nat,n≤x.natAbs+y.natAbs+1→aa.ok (aa.mg n)=true:=fun n G=>ej (Nat.le_trans (dH G) (by omega))
   have bx:∀ z:Int,z.natAbs≤x.natAbs+y.natAbs+1→lC (aa.ms z)=true:=fun z ab=>C8 (Nat.le_trans (dH ab) (by omega))
   have b6:aF (aa.ms y) (aa.mg y.natAbs)=true:=kA _
   rw [dF O,pj y (by omega),pj 1 (by omega),bx x (by omega),bx y (by omega),b6,dT (show 0 < y.natAbs by omega),dF (show ¬ ((y.natAbs:Nat):Int)=0 by omega)] at J
   generalize c3:x.natAbs / y.natAbs=Q at*
   generalize c6:x.natAbs % y.natAbs=R at*
   rw [yw Q (by omega),yw R (by omega),pj (Q:Int) (by omega),pj (R:Int) (by omega),pj (-(Q:Int)) (by omega),pj ((y.natAbs:Int) - (R:Int)) (by omega)] at J
   rw [Kl O]
   have a6:=tM (z:=(Q:Int)) (by omega)
   have U:=tM (z:=(R:Int)) (by omega)
   rw [Int.natAbs_natCast] at a6 U
   have aE:∀ u:Bool,(bif u then (bs x.natAbs≤7∧bs y.natAbs≤7) else ¬ (bs x.natAbs≤7∧bs y.natAbs≤7))=True→aG Tryz.prog ⟨wi aa,az,aq⟩ 10 10 129 [.agg [.val (.bool b), .val (.string s)], .agg [.val (.bool c), .val (.string t)]]=some (.tup [aa.int (zq x y),aa.int (zr x y), .val (.int .i64 0)]):=by
    intro u M
    have a7:(x < 0↔y < 0)∨(¬ (x < 0↔y < 0)∧R=0)∨(¬ (x < 0↔y < 0)∧R≠0):=by
     by_cases q1:(x < 0↔y < 0)
     ·exact .inl q1
     ·by_cases q2:R=0
      ·exact .inr (.inl ⟨q1,q2⟩)
      ·exact .inr (.inr ⟨q1,q2⟩)
    cases u with
    | true=>
     have M:bs x.natAbs≤7∧bs y.natAbs≤7:=of_eq_true M
     have w1:=wU M.1
     have w2:=wU M.2
     have b7:cW (Q:Int)=true:=by unfold cW;rw [Bool.and_eq_true,decide_eq_true_eq,decide_eq_true_eq];omega
     have ch:cW (R:Int)=true:=by unfold cW;rw [Bool.and_eq_true,decide_eq_true_eq,decide_eq_true_eq];omega
     rw [dT (show ((bs x.natAbs:Nat):Int) < 8 by omega),dT (show ((bs y.natAbs:Nat):Int) < 8 by omega),dT (show bs x.natAbs≤8 by omega),dT (show bs y.natAbs≤8 by omega),dT (show x.natAbs < 9223372036854775808 by omega),dT (show y.natAbs < 9223372036854775808 by omega),aJ (z:=(Q:Int)) (by omega),b7,ch] at J
     rw [J]
     rcases a7 with q | ⟨q,q2⟩ | ⟨q,q2⟩
     ·rw [(Z q).1,(Z q).2,sH q]
      by_cases G:y < 0
      ·rw [dT G,if_pos G];rfl
      ·rw [dF G,if_neg G];rfl
     ·obtain ⟨e1,I⟩:=v2 q q2
      rw [e1,I,wQ q,q2,dT (show ((0:Nat):Int)=0 from rfl)]
      by_cases G:y < 0
      ·rw [dT G];rfl
      ·rw [dF G];rfl
     ·obtain ⟨e1,I⟩:=bD q q2
      rw [e1,I,wQ q,dF (show ¬ ((R:Nat):Int)=0 by omega)]
      by_cases G:y < 0
      ·rw [dT G,if_pos G];rfl
      ·rw [dF G,if_neg G];rfl
    | false=>
     have M:¬ (bs x.natAbs≤7∧bs y.natAbs≤7):=of_eq_true M
     rw [J]
     have b0:∀ (X Y:Option AV),(bif decide (((bs x.natAbs:Nat):Int) < 8) then (bif decide (((bs y.natAbs:Nat):Int) < 8) then X else Y) else Y)=Y:=by
      intro X Y
      by_cases p1:bs x.natAbs≤7
      ·rw [dT (show ((bs x.natAbs:Nat):Int) < 8 by omega),dF (show ¬ ((bs y.natAbs:Nat):Int) < 8 by omega)];rfl
      ·rw [dF (show ¬ ((bs x.natAbs:Nat):Int) < 8 by omega)];rfl
     rw [cond_false,b0]
     rcases a7 with q | ⟨q,q2⟩ | ⟨q,q2⟩
     ·rw [(Z q).1,(Z q).2,sH q,a6]
      by_cases G:y < 0
      ·rw [dT G,if_pos G];rfl
      ·rw [dF G,if_neg G,U];rfl
     ·obtain ⟨e1,I⟩:=v2 q q2
      rw [q2] at U
      rw [e1,I,wQ q,q2,dT (show (0:Nat)=0 from rfl)]
      by_cases G:y < 0
      ·rw [dT G];rfl
      ·rw [dF G,show (0:Int)=((0:Nat):Int) from rfl,U];rfl
     ·obtain ⟨e1,I⟩:=bD q q2
      rw [e1,I,wQ q,dF q2]
      by_cases G:y < 0
      ·rw [dT G,if_pos G];rfl
      ·rw [dF G,if_neg G];rfl
   by_cases a1:bs x.natAbs≤7∧bs y.natAbs≤7
   ·exact aE true (eq_true a1)
   ·exact aE false (eq_true a1)
 ·cases h
end
end Go.Proofs.YtamcpiicmfielaaGreat.L
