import Derived.Test.YtamcpiicmfielaaGreatZNA
import Derived.Test.YtamcpiicmfielaaGreatZMD
set_option linter.unusedVariables false
set_option linter.unusedSimpArgs false
namespace Go.Proofs.YtamcpiicmfielaaGreat.L
open Go Go.V Go.RowKit Go.Proofs.YtamcpiicmfielaaGreat.Sp Go.Proofs.YtamcpiicmfielaaGreat.F Go.Proofs.YtamcpiicmfielaaGreatW.PrintWords
open Go.Proofs (Tryz.prog)
noncomputable section
def fA (j:Sg):FuncId→List AV→Option (Bool×AV):=an 133 (vF j) (an 137 (zk j) (an 160 (nY j) (an 136 (y9 j) aF)))
theorem zJ:bb Tryz.prog (fA aa):=((((aH _).add Kc).add qp).add Kk).add BZ
abbrev bO:List Bool:= [false,true,false,true,true,false,false,true,false,false,true,false,true,true,true,true,true,true]
def bX (a:ByteArray) (zs:List Int) (r:ByteArray) (i:Int) (d:Int) (k:Int) (j:ByteArray) (G:ByteArray) (I:ByteArray) (J:ByteArray) (M:ByteArray) (N:ByteArray) (O:ByteArray) (S:ByteArray):List AV:=av 76 [(0, .val (.string a)),(6, .ptr 0 0),(8, .sl false 5 1 0 zs.length),(9, .val (.string r)),(10, .val (.int .i64 i)),(11, .val (.int .i64 d)),(12, .val (.int .i64 k))]
def bW (a:ByteArray) (zs:List Int) (r:ByteArray) (i:Int) (d:Int) (k:Int) (j:ByteArray) (G:ByteArray) (I:ByteArray) (J:ByteArray) (M:ByteArray) (N:ByteArray) (O:ByteArray) (S:ByteArray):Hp:= [.row (.cells [.val (.string j), .val (.string G), .val (.string I), .val (.string J), .val (.string M), .val (.string N), .val (.string O), .val (.string S)]) 176 .live, .row (.ints .u8 zs) 5 .live]
theorem Q9:aJ Tryz.prog 161 bO=some (.loop (lb 161 bO)):=by kernel_rfl
theorem SK:aJ Tryz.prog 161 (false :: bO)=some (lb 161 bO):=by kernel_rfl
theorem mW {a:ByteArray} {zs:List Int} {r:ByteArray} {i:Int} {d:Int} {k:Int} {j:ByteArray} {G:ByteArray} {I:ByteArray} {J:ByteArray} {M:ByteArray} {N:ByteArray} {O:ByteArray} {S:ByteArray} {e:Ex} {T:List AV} {H:Hp} (h:aN Tryz.prog ⟨fA aa,ar,aq⟩ 161 [0,6,8,9,10,11,12] (lb 161 bO) (false :: bO) (bX a zs r i d k j G I J M N O S) (bW a zs r i d k j G I J M N O S)=some (e,T,H)):V.Ends Tryz.prog false 0 0 (lb 161 bO) (bX a zs r i d k j G I J M N O S) (bW a zs r i d k j G I J M N O S) e T H:=
 bw zJ aK mixed SK h
theorem UZ (j:Sg) (a:ByteArray) (zs:List Int) (r:ByteArray) (i d:Int) (I J M N O S U G:ByteArray):aN Tryz.prog ⟨fA j,ar,aq⟩ 161 [0,6,8,9,10,11,12] (lb 161 bO) (false :: bO) (bX a zs r i d (7) I J M N O S U G) (bW a zs r i d (7) I J M N O S U G)=
  (bif aG r (j.mg (j.vs r))&&aG G (j.mg (j.vs G)) then (bif decide ((0:Int)≤j.cmp (j.vs r) (j.vs G)) then (bif j.ok r&&j.ok G&&decide (j.vs G≤j.vs r) then (bif aj IntKind.i64 (d+(128:Int)) then some (.normal,av 76 [(0,(.val (.string a))),(6,(.ptr 0 0)),(8,(.sl false 5 1 0 zs.length)),(9,(.val (.string (j.mg (j.vs r - j.vs G))))),(10,(.val (.int .i64 i))),(11,(.val (.int .i64 (d+(128:Int))))),(12,(.val (.int .i64 6)))], [(.row (.cells [(.val (.string I)),(.val (.string J)),(.val (.string M)),(.val (.string N)),(.val (.string O)),(.val (.string S)),(.val (.string U)),(.val (.string G))]) 176 .live),(.row (.ints .u8 zs) 5 .live)]) else none) else none) else some (.normal,av 76 [(0,(.val (.string a))),(6,(.ptr 0 0)),(8,(.sl false 5 1 0 zs.length)),(9,(.val (.string r))),(10,(.val (.int .i64 i))),(11,(.val (.int .i64 d))),(12,(.val (.int .i64 6)))], [(.row (.cells [(.val (.string I)),(.val (.string J)),(.val (.string M)),(.val (.string N)),(.val (.string O)),(.val (.string S)),(.val (.string U)),(.val (.string G))]) 176 .live),(.row (.ints .u8 zs) 5 .live)])) else none):=by kernel_rfl
theorem UY (j:Sg) (a:ByteArray) (zs:List Int) (r:ByteArray) (i d:Int) (I J M N O S G U:ByteArray):aN Tryz.prog ⟨fA j,ar,aq⟩ 161 [0,6,8,9,10,11,12] (lb 161 bO) (false :: bO) (bX a zs r i d (6) I J M N O S G U) (bW a zs r i d (6) I J M N O S G U)=
  (bif aG r (j.mg (j.vs r))&&aG G (j.mg (j.vs G)) then (bif decide ((0:Int)≤j.cmp (j.vs r) (j.vs G)) then (bif j.ok r&&j.ok G&&decide (j.vs G≤j.vs r) then (bif aj IntKind.i64 (d+(64:Int)) then some (.normal,av 76 [(0,(.val (.string a))),(6,(.ptr 0 0)),(8,(.sl false 5 1 0 zs.length)),(9,(.val (.string (j.mg (j.vs r - j.vs G))))),(10,(.val (.int .i64 i))),(11,(.val (.int .i64 (d+(64:Int))))),(12,(.val (.int .i64 5)))], [(.row (.cells [(.val (.string I)),(.val (.string J)),(.val (.string M)),(.val (.string N)),(.val (.string O)),(.val (.string S)),(.val (.string G)),(.val (.string U))]) 176 .live),(.row (.ints .u8 zs) 5 .live)]) else none) else none) else some (.normal,av 76 [(0,(.val (.string a))),(6,(.ptr 0 0)),(8,(.sl false 5 1 0 zs.length)),(9,(.val (.string r))),(10,(.val (.int .i64 i))),(11,(.val (.int .i64 d))),(12,(.val (.int .i64 5)))], [(.row (.cells [(.val (.string I)),(.val (.string J)),(.val (.string M)),(.val (.string N)),(.val (.string O)),(.val (.string S)),(.val (.string G)),(.val (.string U))]) 176 .live),(.row (.ints .u8 zs) 5 .live)])) else none):=by kernel_rfl
theorem UX (j:Sg) (a:ByteArray) (zs:List Int) (r:ByteArray) (i d:Int) (I J M N O G S U:ByteArray):aN Tryz.prog ⟨fA j,ar,aq⟩ 161 [0,6,8,9,10,11,12] (lb 161 bO) (false :: bO) (bX a zs r i d (5) I J M N O G S U) (bW a zs r i d (5) I J M N O G S U)=
  (bif aG r (j.mg (j.vs r))&&aG G (j.mg (j.vs G)) then (bif decide ((0:Int)≤j.cmp (j.vs r) (j.vs G)) then (bif j.ok r&&j.ok G&&decide (j.vs G≤j.vs r) then (bif aj IntKind.i64 (d+(32:Int)) then some (.normal,av 76 [(0,(.val (.string a))),(6,(.ptr 0 0)),(8,(.sl false 5 1 0 zs.length)),(9,(.val (.string (j.mg (j.vs r - j.vs G))))),(10,(.val (.int .i64 i))),(11,(.val (.int .i64 (d+(32:Int))))),(12,(.val (.int .i64 4)))], [(.row (.cells [(.val (.string I)),(.val (.string J)),(.val (.string M)),(.val (.string N)),(.val (.string O)),(.val (.string G)),(.val (.string S)),(.val (.string U))]) 176 .live),(.row (.ints .u8 zs) 5 .live)]) else none) else none) else some (.normal,av 76 [(0,(.val (.string a))),(6,(.ptr 0 0)),(8,(.sl false 5 1 0 zs.length)),(9,(.val (.string r))),(10,(.val (.int .i64 i))),(11,(.val (.int .i64 d))),(12,(.val (.int .i64 4)))], [(.row (.cells [(.val (.string I)),(.val (.string J)),(.val (.string M)),(.val (.string N)),(.val (.string O)),(.val (.string G)),(.val (.string S)),(.val (.string U))]) 176 .live),(.row (.ints .u8 zs) 5 .live)])) else none):=by kernel_rfl
theorem UW (j:Sg) (a:ByteArray) (zs:List Int) (r:ByteArray) (i d:Int) (I J M N G O S U:ByteArray):aN Tryz.prog ⟨fA j,ar,aq⟩ 161 [0,6,8,9,10,11,12] (lb 161 bO) (false :: bO) (bX a zs r i d (4) I J M N G O S U) (bW a zs r i d (4) I J M N G O S U)=
  (bif aG r (j.mg (j.vs r))&&aG G (j.mg (j.vs G)) then (bif decide ((0:Int)≤j.cmp (j.vs r) (j.vs G)) then (bif j.ok r&&j.ok G&&decide (j.vs G≤j.vs r) then (bif aj IntKind.i64 (d+(16:Int)) then some (.normal,av 76 [(0,(.val (.string a))),(6,(.ptr 0 0)),(8,(.sl false 5 1 0 zs.length)),(9,(.val (.string (j.mg (j.vs r - j.vs G))))),(10,(.val (.int .i64 i))),(11,(.val (.int .i64 (d+(16:Int))))),(12,(.val (.int .i64 3)))], [(.row (.cells [(.val (.string I)),(.val (.string J)),(.val (.string M)),(.val (.string N)),(.val (.string G)),(.val (.string O)),(.val (.string S)),(.val (.string U))]) 176 .live),(.row (.ints .u8 zs) 5 .live)]) else none) else none) else some (.normal,av 76 [(0,(.val (.string a))),(6,(.ptr 0 0)),(8,(.sl false 5 1 0 zs.length)),(9,(.val (.string r))),(10,(.val (.int .i64 i))),(11,(.val (.int .i64 d))),(12,(.val (.int .i64 3)))], [(.row (.cells [(.val (.string I)),(.val (.string J)),(.val (.string M)),(.val (.string N)),(.val (.string G)),(.val (.string O)),(.val (.string S)),(.val (.string U))]) 176 .live),(.row (.ints .u8 zs) 5 .live)])) else none):=by kernel_rfl
theorem UU (j:Sg) (a:ByteArray) (zs:List Int) (r:ByteArray) (i d:Int) (I J M G N O S U:ByteArray):aN Tryz.prog ⟨fA j,ar,aq⟩ 161 [0,6,8,9,10,11,12] (lb 161 bO) (false :: bO) (bX a zs r i d (3) I J M G N O S U) (bW a zs r i d (3) I J M G N O S U)=
  (bif aG r (j.mg (j.vs r))&&aG G (j.mg (j.vs G)) then (bif decide ((0:Int)≤j.cmp (j.vs r) (j.vs G)) then (bif j.ok r&&j.ok G&&decide (j.vs G≤j.vs r) then (bif aj IntKind.i64 (d+(8:Int)) then some (.normal,av 76 [(0,(.val (.string a))),(6,(.ptr 0 0)),(8,(.sl false 5 1 0 zs.length)),(9,(.val (.string (j.mg (j.vs r - j.vs G))))),(10,(.val (.int .i64 i))),(11,(.val (.int .i64 (d+(8:Int))))),(12,(.val (.int .i64 2)))], [(.row (.cells [(.val (.string I)),(.val (.string J)),(.val (.string M)),(.val (.string G)),(.val (.string N)),(.val (.string O)),(.val (.string S)),(.val (.string U))]) 176 .live),(.row (.ints .u8 zs) 5 .live)]) else none) else none) else some (.normal,av 76 [(0,(.val (.string a))),(6,(.ptr 0 0)),(8,(.sl false 5 1 0 zs.length)),(9,(.val (.string r))),(10,(.val (.int .i64 i))),(11,(.val (.int .i64 d))),(12,(.val (.int .i64 2)))], [(.row (.cells [(.val (.string I)),(.val (.string J)),(.val (.string M)),(.val (.string G)),(.val (.string N)),(.val (.string O)),(.val (.string S)),(.val (.string U))]) 176 .live),(.row (.ints .u8 zs) 5 .live)])) else none):=by kernel_rfl
theorem UT (j:Sg) (a:ByteArray) (zs:List Int) (r:ByteArray) (i d:Int) (I J G M N O S U:ByteArray):aN Tryz.prog ⟨fA j,ar,aq⟩ 161 [0,6,8,9,10,11,12] (lb 161 bO) (false :: bO) (bX a zs r i d (2) I J G M N O S U) (bW a zs r i d (2) I J G M N O S U)=
  (bif aG r (j.mg (j.vs r))&&aG G (j.mg (j.vs G)) then (bif decide ((0:Int)≤j.cmp (j.vs r) (j.vs G)) then (bif j.ok r&&j.ok G&&decide (j.vs G≤j.vs r) then (bif aj IntKind.i64 (d+(4:Int)) then some (.normal,av 76 [(0,(.val (.string a))),(6,(.ptr 0 0)),(8,(.sl false 5 1 0 zs.length)),(9,(.val (.string (j.mg (j.vs r - j.vs G))))),(10,(.val (.int .i64 i))),(11,(.val (.int .i64 (d+(4:Int))))),(12,(.val (.int .i64 1)))], [(.row (.cells [(.val (.string I)),(.val (.string J)),(.val (.string G)),(.val (.string M)),(.val (.string N)),(.val (.string O)),(.val (.string S)),(.val (.string U))]) 176 .live),(.row (.ints .u8 zs) 5 .live)]) else none) else none) else some (.normal,av 76 [(0,(.val (.string a))),(6,(.ptr 0 0)),(8,(.sl false 5 1 0 zs.length)),(9,(.val (.string r))),(10,(.val (.int .i64 i))),(11,(.val (.int .i64 d))),(12,(.val (.int .i64 1)))], [(.row (.cells [(.val (.string I)),(.val (.string J)),(.val (.string G)),(.val (.string M)),(.val (.string N)),(.val (.string O)),(.val (.string S)),(.val (.string U))]) 176 .live),(.row (.ints .u8 zs) 5 .live)])) else none):=by kernel_rfl
theorem US (j:Sg) (a:ByteArray) (zs:List Int) (r:ByteArray) (i d:Int) (I G J M N O S U:ByteArray):aN Tryz.prog ⟨fA j,ar,aq⟩ 161 [0,6,8,9,10,11,12] (lb 161 bO) (false :: bO) (bX a zs r i d (1) I G J M N O S U) (bW a zs r i d (1) I G J M N O S U)=
  (bif aG r (j.mg (j.vs r))&&aG G (j.mg (j.vs G)) then (bif decide ((0:Int)≤j.cmp (j.vs r) (j.vs G)) then (bif j.ok r&&j.ok G&&decide (j.vs G≤j.vs r) then (bif aj IntKind.i64 (d+(2:Int)) then some (.normal,av 76 [(0,(.val (.string a))),(6,(.ptr 0 0)),(8,(.sl false 5 1 0 zs.length)),(9,(.val (.string (j.mg (j.vs r - j.vs G))))),(10,(.val (.int .i64 i))),(11,(.val (.int .i64 (d+(2:Int))))),(12,(.val (.int .i64 0)))], [(.row (.cells [(.val (.string I)),(.val (.string G)),(.val (.string J)),(.val (.string M)),(.val (.string N)),(.val (.string O)),(.val (.string S)),(.val (.string U))]) 176 .live),(.row (.ints .u8 zs) 5 .live)]) else none) else none) else some (.normal,av 76 [(0,(.val (.string a))),(6,(.ptr 0 0)),(8,(.sl false 5 1 0 zs.length)),(9,(.val (.string r))),(10,(.val (.int .i64 i))),(11,(.val (.int .i64 d))),(12,(.val (.int .i64 0)))], [(.row (.cells [(.val (.string I)),(.val (.string G)),(.val (.string J)),(.val (.string M)),(.val (.string N)),(.val (.string O)),(.val (.string S)),(.val (.string U))]) 176 .live),(.row (.ints .u8 zs) 5 .live)])) else none):=by kernel_rfl
theorem UR (j:Sg) (a:ByteArray) (zs:List Int) (r:ByteArray) (i d:Int) (G I J M N O S U:ByteArray):aN Tryz.prog ⟨fA j,ar,aq⟩ 161 [0,6,8,9,10,11,12] (lb 161 bO) (false :: bO) (bX a zs r i d (0) G I J M N O S U) (bW a zs r i d (0) G I J M N O S U)=
  (bif aG r (j.mg (j.vs r))&&aG G (j.mg (j.vs G)) then (bif decide ((0:Int)≤j.cmp (j.vs r) (j.vs G)) then (bif j.ok r&&j.ok G&&decide (j.vs G≤j.vs r) then (bif aj IntKind.i64 (d+(1:Int)) then some (.normal,av 76 [(0,(.val (.string a))),(6,(.ptr 0 0)),(8,(.sl false 5 1 0 zs.length)),(9,(.val (.string (j.mg (j.vs r - j.vs G))))),(10,(.val (.int .i64 i))),(11,(.val (.int .i64 (d+(1:Int))))),(12,(.val (.int .i64 (-1))))], [(.row (.cells [(.val (.string G)),(.val (.string I)),(.val (.string J)),(.val (.string M)),(.val (.string N)),(.val (.string O)),(.val (.string S)),(.val (.string U))]) 176 .live),(.row (.ints .u8 zs) 5 .live)]) else none) else none) else some (.normal,av 76 [(0,(.val (.string a))),(6,(.ptr 0 0)),(8,(.sl false 5 1 0 zs.length)),(9,(.val (.string r))),(10,(.val (.int .i64 i))),(11,(.val (.int .i64 d))),(12,(.val (.int .i64 (-1))))], [(.row (.cells [(.val (.string G)),(.val (.string I)),(.val (.string J)),(.val (.string M)),(.val (.string N)),(.val (.string O)),(.val (.string S)),(.val (.string U))]) 176 .live),(.row (.ints .u8 zs) 5 .live)])) else none):=by kernel_rfl
theorem U0 (U:Sg) (a:ByteArray) (zs:List Int) (r:ByteArray) (i d:Int) (j G I J M N O S:ByteArray):aN Tryz.prog ⟨fA U,ar,aq⟩ 161 [0,6,8,9,10,11,12] (lb 161 bO) (false :: bO) (bX a zs r i d (-1) j G I J M N O S) (bW a zs r i d (-1) j G I J M N O S)=
  (some ((.exit 4),av 76 [(0,(.val (.string a))),(6,(.ptr 0 0)),(8,(.sl false 5 1 0 zs.length)),(9,(.val (.string r))),(10,(.val (.int .i64 i))),(11,(.val (.int .i64 d))),(12,(.val (.int .i64 (-1))))], [(.row (.cells [(.val (.string j)),(.val (.string G)),(.val (.string I)),(.val (.string J)),(.val (.string M)),(.val (.string N)),(.val (.string O)),(.val (.string S))]) 176 .live),(.row (.ints .u8 zs) 5 .live)])):=by kernel_rfl
theorem nF (n:Nat):aG (az n) (aa.mg n)=true:=pF _
theorem eI (n:Nat):aa.vs (az n)=n:=jc n
theorem rl (n:Nat):(az n).size=bs n:=kV n
theorem dQ {n:Nat} (h:bs n≤8796093022208):aa.ok (az n)=true:=decide_eq_true (by rw [rl];exact h)
theorem eV (a b:Nat):0≤aa.cmp a b↔b≤a:=by
 show 0≤b9 a b↔_
 unfold b9
 split <;> (try split) <;> omega
def bR (j R:Nat):Nat:=if j≤R then R - j else R
def bT (m j R d:Nat):Nat:=if j≤R then d+m else d
theorem U8 (a:ByteArray) (zs:List Int) (i:Int) (I J M N O S U G:ByteArray) (R j d:Nat) (a0:G=az j) (Z:bs j≤8796093022208) (ab:bs R≤8796093022208) (a1:d≤1000):
  V.Ends Tryz.prog false 0 0 (lb 161 bO) (bX a zs (az R) i (d:Int) 7 I J M N O S U G) (bW a zs (az R) i (d:Int) 7 I J M N O S U G) .normal
   (bX a zs (az (bR j R)) i ((bT 128 j R d:Nat):Int) (7 - 1) I J M N O S U G) (bW a zs (az (bR j R)) i ((bT 128 j R d:Nat):Int) (7 - 1) I J M N O S U G):=by
 subst a0
 refine mW ?_
 rw [UZ]
 simp only [nF,eI]
 rw [dQ ab,dQ Z]
 unfold bR bT
 by_cases h:j≤R
 ·rw [if_pos h,if_pos h,dT ((eV R j).2 h),dT h,aO (z:=(d:Int)+128) (by omega),show (d:Int)+128=((d+128:Nat):Int) by omega]
  rfl
 ·rw [if_neg h,if_neg h,dF (fun h'=>h ((eV R j).1 h'))]
  rfl
theorem U7 (a:ByteArray) (zs:List Int) (i:Int) (I J M N O S G U:ByteArray) (R j d:Nat) (a0:G=az j) (Z:bs j≤8796093022208) (ab:bs R≤8796093022208) (a1:d≤1000):
  V.Ends Tryz.prog false 0 0 (lb 161 bO) (bX a zs (az R) i (d:Int) 6 I J M N O S G U) (bW a zs (az R) i (d:Int) 6 I J M N O S G U) .normal
   (bX a zs (az (bR j R)) i ((bT 64 j R d:Nat):Int) (6 - 1) I J M N O S G U) (bW a zs (az (bR j R)) i ((bT 64 j R d:Nat):Int) (6 - 1) I J M N O S G U):=by
 subst a0
 refine mW ?_
 rw [UY]
 simp only [nF,eI]
 rw [dQ ab,dQ Z]
 unfold bR bT
 by_cases h:j≤R
 ·rw [if_pos h,if_pos h,dT ((eV R j).2 h),dT h,aO (z:=(d:Int)+64) (by omega),show (d:Int)+64=((d+64:Nat):Int) by omega]
  rfl
 ·rw [if_neg h,if_neg h,dF (fun h'=>h ((eV R j).1 h'))]
  rfl
theorem U6 (a:ByteArray) (zs:List Int) (i:Int) (I J M N O G S U:ByteArray) (R j d:Nat) (a0:G=az j) (Z:bs j≤8796093022208) (ab:bs R≤8796093022208) (a1:d≤1000):
  V.Ends Tryz.prog false 0 0 (lb 161 bO) (bX a zs (az R) i (d:Int) 5 I J M N O G S U) (bW a zs (az R) i (d:Int) 5 I J M N O G S U) .normal
   (bX a zs (az (bR j R)) i ((bT 32 j R d:Nat):Int) (5 - 1) I J M N O G S U) (bW a zs (az (bR j R)) i ((bT 32 j R d:Nat):Int) (5 - 1) I J M N O G S U):=by
 subst a0
 refine mW ?_
 rw [UX]
 simp only [nF,eI]
 rw [dQ ab,dQ Z]
 unfold bR bT
 by_cases h:j≤R
 ·rw [if_pos h,if_pos h,dT ((eV R j).2 h),dT h,aO (z:=(d:Int)+32) (by omega),show (d:Int)+32=((d+32:Nat):Int) by omega]
  rfl
 ·rw [if_neg h,if_neg h,dF (fun h'=>h ((eV R j).1 h'))]
  rfl
theorem U5 (a:ByteArray) (zs:List Int) (i:Int) (I J M N G O S U:ByteArray) (R j d:Nat) (a0:G=az j) (Z:bs j≤8796093022208) (ab:bs R≤8796093022208) (a1:d≤1000):
  V.Ends Tryz.prog false 0 0 (lb 161 bO) (bX a zs (az R) i (d:Int) 4 I J M N G O S U) (bW a zs (az R) i (d:Int) 4 I J M N G O S U) .normal
   (bX a zs (az (bR j R)) i ((bT 16 j R d:Nat):Int) (4 - 1) I J M N G O S U) (bW a zs (az (bR j R)) i ((bT 16 j R d:Nat):Int) (4 - 1) I J M N G O S U):=by
 subst a0
 refine mW ?_
 rw [UW]
 simp only [nF,eI]
 rw [dQ ab,dQ Z]
 unfold bR bT
 by_cases h:j≤R
 ·rw [if_pos h,if_pos h,dT ((eV R j).2 h),dT h,aO (z:=(d:Int)+16) (by omega),show (d:Int)+16=((d+16:Nat):Int) by omega]
  rfl
 ·rw [if_neg h,if_neg h,dF (fun h'=>h ((eV R j).1 h'))]
  rfl
theorem U4 (a:ByteArray) (zs:List Int) (i:Int) (I J M G N O S U:ByteArray) (R j d:Nat) (a0:G=az j) (Z:bs j≤8796093022208) (ab:bs R≤8796093022208) (a1:d≤1000):
  V.Ends Tryz.prog false 0 0 (lb 161 bO) (bX a zs (az R) i (d:Int) 3 I J M G N O S U) (bW a zs (az R) i (d:Int) 3 I J M G N O S U) .normal
   (bX a zs (az (bR j R)) i ((bT 8 j R d:Nat):Int) (3 - 1) I J M G N O S U) (bW a zs (az (bR j R)) i ((bT 8 j R d:Nat):Int) (3 - 1) I J M G N O S U):=by
 subst a0
 refine mW ?_
 rw [UU]
 simp only [nF,eI]
 rw [dQ ab,dQ Z]
 unfold bR bT
 by_cases h:j≤R
 ·rw [if_pos h,if_pos h,dT ((eV R j).2 h),dT h,aO (z:=(d:Int)+8) (by omega),show (d:Int)+8=((d+8:Nat):Int) by omega]
  rfl
 ·rw [if_neg h,if_neg h,dF (fun h'=>h ((eV R j).1 h'))]
  rfl
theorem U3 (a:ByteArray) (zs:List Int) (i:Int) (I J G M N O S U:ByteArray) (R j d:Nat) (a0:G=az j) (Z:bs j≤8796093022208) (ab:bs R≤8796093022208) (a1:d≤1000):
  V.Ends Tryz.prog false 0 0 (lb 161 bO) (bX a zs (az R) i (d:Int) 2 I J G M N O S U) (bW a zs (az R) i (d:Int) 2 I J G M N O S U) .normal
   (bX a zs (az (bR j R)) i ((bT 4 j R d:Nat):Int) (2 - 1) I J G M N O S U) (bW a zs (az (bR j R)) i ((bT 4 j R d:Nat):Int) (2 - 1) I J G M N O S U):=by
 subst a0
 refine mW ?_
 rw [UT]
 simp only [nF,eI]
 rw [dQ ab,dQ Z]
 unfold bR bT
 by_cases h:j≤R
 ·rw [if_pos h,if_pos h,dT ((eV R j).2 h),dT h,aO (z:=(d:Int)+4) (by omega),show (d:Int)+4=((d+4:Nat):Int) by omega]
  rfl
 ·rw [if_neg h,if_neg h,dF (fun h'=>h ((eV R j).1 h'))]
  rfl
theorem U2 (a:ByteArray) (zs:List Int) (i:Int) (I G J M N O S U:ByteArray) (R j d:Nat) (a0:G=az j) (Z:bs j≤8796093022208) (ab:bs R≤8796093022208) (a1:d≤1000):
  V.Ends Tryz.prog false 0 0 (lb 161 bO) (bX a zs (az R) i (d:Int) 1 I G J M N O S U) (bW a zs (az R) i (d:Int) 1 I G J M N O S U) .normal
   (bX a zs (az (bR j R)) i ((bT 2 j R d:Nat):Int) (1 - 1) I G J M N O S U) (bW a zs (az (bR j R)) i ((bT 2 j R d:Nat):Int) (1 - 1) I G J M N O S U):=by
 subst a0
 refine mW ?_
 rw [US]
 simp only [nF,eI]
 rw [dQ ab,dQ Z]
 unfold bR bT
 by_cases h:j≤R
 ·rw [if_pos h,if_pos h,dT ((eV R j).2 h),dT h,aO (z:=(d:Int)+2) (by omega),show (d:Int)+2=((d+2:Nat):Int) by omega]
  rfl
 ·rw [if_neg h,if_neg h,dF (fun h'=>h ((eV R j).1 h'))]
  rfl
theorem U1 (a:ByteArray) (zs:List Int) (i:Int) (G I J M N O S U:ByteArray) (R j d:Nat) (a0:G=az j) (Z:bs j≤8796093022208) (ab:bs R≤8796093022208) (a1:d≤1000):
  V.Ends Tryz.prog false 0 0 (lb 161 bO) (bX a zs (az R) i (d:Int) 0 G I J M N O S U) (bW a zs (az R) i (d:Int) 0 G I J M N O S U) .normal
   (bX a zs (az (bR j R)) i ((bT 1 j R d:Nat):Int) (0 - 1) G I J M N O S U) (bW a zs (az (bR j R)) i ((bT 1 j R d:Nat):Int) (0 - 1) G I J M N O S U):=by
 subst a0
 refine mW ?_
 rw [UR]
 simp only [nF,eI]
 rw [dQ ab,dQ Z]
 unfold bR bT
 by_cases h:j≤R
 ·rw [if_pos h,if_pos h,dT ((eV R j).2 h),dT h,aO (z:=(d:Int)+1) (by omega),show (d:Int)+1=((d+1:Nat):Int) by omega]
  rfl
 ·rw [if_neg h,if_neg h,dF (fun h'=>h ((eV R j).1 h'))]
  rfl
theorem nt (m B R d G:Nat) (h:G=d*B+R) (I:R < 2*(m*B)):G=bT m (m*B) R d*B+bR (m*B) R∧bR (m*B) R < m*B:=by
 unfold bT bR
 by_cases j:m*B≤R
 ·rw [if_pos j,if_pos j,Nat.add_mul];omega
 ·rw [if_neg j,if_neg j];omega
theorem nr (m j R d k:Nat) (h:d≤k):bT m j R d≤k+m:=by unfold bT;split <;> omega
theorem UQ (j R:Nat):bR j R≤R:=by unfold bR;split <;> omega
def tW (a:ByteArray) (zs:List Int) (r:ByteArray) (i d k:Int) (j G I J M N O S:ByteArray):Prop:=∃ R B:Nat,r=az R∧d=0∧k=7∧R < 256*B∧bs (256*B)≤8796093022208∧
 j=az (1*B)∧G=az (2*B)∧I=az (4*B)∧J=az (8*B)∧M=az (16*B)∧N=az (32*B)∧O=az (64*B)∧S=az (128*B)
def yn (a:ByteArray) (zs:List Int) (r:ByteArray) (i d k:Int) (j G I J M N O S:ByteArray) (ρ:ByteArray×Int×Int):Prop:=ρ.1=az (vS r % vS j)∧ρ.2.1=((vS r / vS j:Nat):Int)
theorem XG (a:ByteArray) (zs:List Int) (r:ByteArray) (i d k:Int) (G I J M N O S U:ByteArray) (h:tW a zs r i d k G I J M N O S U):∃ ρ:ByteArray×Int×Int,
  aw Tryz.prog (lb 161 bO) (bX a zs r i d k G I J M N O S U) (bW a zs r i d k G I J M N O S U) (.exit 4) (bX a zs ρ.1 i ρ.2.1 ρ.2.2 G I J M N O S U) (bW a zs ρ.1 i ρ.2.1 ρ.2.2 G I J M N O S U)∧yn a zs r i d k G I J M N O S U ρ:=by
 obtain ⟨R,B,rfl,rfl,rfl,hb,et,b3,eu,ev,ey,ez,eN,e0,ep⟩:=h
 obtain ⟨eo,hh⟩:=nt 128 B R 0 R (by omega) (by omega)
 have c8:=nr 128 (128*B) R 0 0 (Nat.le_refl _)
 have g7:=UQ (128*B) R
 generalize g3:bR (128*B) R=a5 at*
 generalize fc:bT 128 (128*B) R 0=b1 at*
 obtain ⟨en,hg⟩:=nt 64 B a5 b1 R eo (by omega)
 have c7:=nr 64 (64*B) a5 b1 _ c8
 generalize g2:bR (64*B) a5=a4 at*
 generalize fa:bT 64 (64*B) a5 b1=b0 at*
 obtain ⟨eh,hf⟩:=nt 32 B a4 b0 R en (by omega)
 have c6:=nr 32 (32*B) a4 b0 _ c7
 generalize g1:bR (32*B) a4=a3 at*
 generalize e7:bT 32 (32*B) a4 b0=bD at*
 obtain ⟨ed,hd⟩:=nt 16 B a3 bD R eh (by omega)
 have c5:=nr 16 (16*B) a3 bD _ c6
 generalize gn:bR (16*B) a3=a2 at*
 generalize e6:bT 16 (16*B) a3 bD=bx at*
 obtain ⟨ec,hc⟩:=nt 8 B a2 bx R ed (by omega)
 have c4:=nr 8 (8*B) a2 bx _ c5
 generalize gf:bR (8*B) a2=a1 at*
 generalize e5:bT 8 (8*B) a2 bx=a7 at*
 obtain ⟨eb,l2⟩:=nt 4 B a1 a7 R ec (by omega)
 have c3:=nr 4 (4*B) a1 a7 _ c4
 generalize fv:bR (4*B) a1=a0 at*
 generalize e4:bT 4 (4*B) a1 a7=a6 at*
 obtain ⟨dy,l1⟩:=nt 2 B a0 a6 R eb (by omega)
 have c2:=nr 2 (2*B) a0 a6 _ c3
 generalize fs:bR (2*B) a0=ab at*
 generalize e3:bT 2 (2*B) a0 a6=D1 at*
 obtain ⟨ha,l0⟩:=nt 1 B ab D1 R dy (by omega)
 have g8:=nr 1 (1*B) ab D1 _ c2
 generalize fh:bR (1*B) ab=b2 at*
 generalize e2:bT 1 (1*B) ab D1=Z at*
 have j:∀ n:Nat,n≤256*B→bs n≤8796093022208:=fun n g4=>Nat.le_trans (du g4) et
 refine ⟨(az b2,(Z:Int), -1), ?_, ?_⟩
 ·have c1:=U8 a zs i G I J M N O S U R (128*B) 0 ep (j _ (by omega)) (j _ (by omega)) (by omega)
  have c0:=U7 a zs i G I J M N O S U a5 (64*B) b1 e0 (j _ (by omega)) (j _ (by omega)) (by omega)
  have ct:=U6 a zs i G I J M N O S U a4 (32*B) b0 eN (j _ (by omega)) (j _ (by omega)) (by omega)
  have ch:=U5 a zs i G I J M N O S U a3 (16*B) bD ez (j _ (by omega)) (j _ (by omega)) (by omega)
  have b8:=U4 a zs i G I J M N O S U a2 (8*B) bx ey (j _ (by omega)) (j _ (by omega)) (by omega)
  have b7:=U3 a zs i G I J M N O S U a1 (4*B) a7 ev (j _ (by omega)) (j _ (by omega)) (by omega)
  have b6:=U2 a zs i G I J M N O S U a0 (2*B) a6 eu (j _ (by omega)) (j _ (by omega)) (by omega)
  have b5:=U1 a zs i G I J M N O S U ab (1*B) D1 b3 (j _ (by omega)) (j _ (by omega)) (by omega)
  rw [g3,fc] at c1
  rw [g2,fa] at c0
  rw [g1,e7] at ct
  rw [gn,e6] at ch
  rw [gf,e5] at b8
  rw [fv,e4] at b7
  rw [fs,e3] at b6
  rw [fh,e2] at b5
  refine .more c1 (.more c0 (.more ct (.more ch (.more b8 (.more b7 (.more b6 (.more b5 (.last (mW ?_) (by intro h;cases h)))))))))
  exact U0 aa a zs (az b2) i (Z:Int) G I J M N O S U
 ·have g5:vS (az R)=R:=eI R
  have g6:vS G=B:=by rw [b3];exact (eI (1*B)).trans (Nat.one_mul B)
  unfold yn
  rw [g5,g6]
  have dx:b2+B*Z=R:=by rw [Nat.mul_comm B Z];omega
  have e1:0 < B:=by omega
  have b4:=(Nat.div_mod_unique (a:=R) (b:=B) (c:=b2) (d:=Z) e1).2 ⟨dx,by omega⟩
  rw [b4.1,b4.2]
  exact ⟨rfl,rfl⟩
def FV (ab:ByteArray→List Int→ByteArray→Int→Int→Int→ByteArray→ByteArray→ByteArray→ByteArray→ByteArray→ByteArray→ByteArray→ByteArray→Bool) (U:ByteArray→List Int→ByteArray→Int→Int→Int→ByteArray→ByteArray→ByteArray→ByteArray→ByteArray→ByteArray→ByteArray→ByteArray→ByteArray×Int×Int) (T:List AV) (H:Hp):Option (Bool×Ex×List AV×Hp):=
 match al T 0,al T 6,al T 8,al T 9,al T 10,al T 11,al T 12,H with
 | .val (.string a), .ptr 0 0, .sl false 5 1 0 Z, .val (.string r), .val (.int .i64 i), .val (.int .i64 d), .val (.int .i64 k), [.row (.cells [.val (.string j), .val (.string G), .val (.string I), .val (.string J), .val (.string M), .val (.string N), .val (.string O), .val (.string S)]) 176 .live, .row (.ints .u8 zs) 5 .live]=>bif T.length==76 then some (decide (Z=zs.length)&&ab a zs r i d k j G I J M N O S, .exit 4,bX a zs ((U a zs r i d k j G I J M N O S).1) i ((U a zs r i d k j G I J M N O S).2.1) ((U a zs r i d k j G I J M N O S).2.2) j G I J M N O S,bW a zs ((U a zs r i d k j G I J M N O S).1) i ((U a zs r i d k j G I J M N O S).2.1) ((U a zs r i d k j G I J M N O S).2.2) j G I J M N O S) else none
 | _,_,_,_,_,_,_,_=>none
abbrev Il:Type:=ByteArray→List Int→ByteArray→Int→Int→Int→ByteArray→ByteArray→ByteArray→ByteArray→ByteArray→ByteArray→ByteArray→ByteArray→Bool
abbrev HI:Type:=ByteArray→List Int→ByteArray→Int→Int→Int→ByteArray→ByteArray→ByteArray→ByteArray→ByteArray→ByteArray→ByteArray→ByteArray→ByteArray×Int×Int
def AP (j:Il) (G:HI) (L:aE):aE:=bp 0 161 bO [0,6,8,9,10,11,12] (FV j G) L
def kO (a:ByteArray) (zs:List Int) (r:ByteArray) (i:Int) (d:Int) (k:Int) (j:ByteArray) (G:ByteArray) (I:ByteArray) (J:ByteArray) (M:ByteArray) (N:ByteArray) (O:ByteArray) (S:ByteArray):ByteArray×Int×Int:=Classical.epsilon fun ρ=>aw Tryz.prog (lb 161 bO) (bX a zs r i d k j G I J M N O S) (bW a zs r i d k j G I J M N O S) (.exit 4) (bX a zs (ρ.1) i (ρ.2.1) (ρ.2.2) j G I J M N O S) (bW a zs (ρ.1) i (ρ.2.1) (ρ.2.2) j G I J M N O S)∧yn a zs r i d k j G I J M N O S ρ
theorem Md (a:ByteArray) (zs:List Int) (r:ByteArray) (i:Int) (d:Int) (k:Int) (j:ByteArray) (G:ByteArray) (I:ByteArray) (J:ByteArray) (M:ByteArray) (N:ByteArray) (O:ByteArray) (S:ByteArray) (h:tW a zs r i d k j G I J M N O S):aw Tryz.prog (lb 161 bO) (bX a zs r i d k j G I J M N O S) (bW a zs r i d k j G I J M N O S) (.exit 4) (bX a zs ((kO a zs r i d k j G I J M N O S).1) i ((kO a zs r i d k j G I J M N O S).2.1) ((kO a zs r i d k j G I J M N O S).2.2) j G I J M N O S) (bW a zs ((kO a zs r i d k j G I J M N O S).1) i ((kO a zs r i d k j G I J M N O S).2.1) ((kO a zs r i d k j G I J M N O S).2.2) j G I J M N O S)∧yn a zs r i d k j G I J M N O S (kO a zs r i d k j G I J M N O S):=Classical.epsilon_spec (XG a zs r i d k j G I J M N O S h)
def sB (a:ByteArray) (zs:List Int) (r:ByteArray) (i:Int) (d:Int) (k:Int) (j:ByteArray) (G:ByteArray) (I:ByteArray) (J:ByteArray) (M:ByteArray) (N:ByteArray) (O:ByteArray) (S:ByteArray):Bool:= @decide (tW a zs r i d k j G I J M N O S) (Classical.propDecidable _)
theorem TH (a:ByteArray) (zs:List Int) (r:ByteArray) (i:Int) (d:Int) (k:Int) (j:ByteArray) (G:ByteArray) (I:ByteArray) (J:ByteArray) (M:ByteArray) (N:ByteArray) (O:ByteArray) (S:ByteArray) (h:tW a zs r i d k j G I J M N O S):sB a zs r i d k j G I J M N O S=true:= @decide_eq_true _ (Classical.propDecidable _) h
theorem ac9 (T:List AV) (H:Hp) (e:Ex) (I:List AV) (G:Hp) (h:FV sB kO T H=some (true,e,I,G)):V.Ends Tryz.prog false 0 0 (.loop (lb 161 bO)) T H e I G:=by
 unfold FV at h
 split at h
 ·rename_i a b2 r i d k a4 a5 a6 a7 bx bD b0 b1 zs N Z ab a0 O S U
  rw [Bool.cond_eq_ite] at h
  split at h
  ·rename_i J
   rw [beq_iff_eq] at J
   simp only [Option.some.injEq,Prod.mk.injEq,Bool.and_eq_true,decide_eq_true_eq] at h
   obtain ⟨⟨k1,a2⟩,rfl,rfl,rfl⟩:=h
   have a3:= @of_decide_eq_true _ (Classical.propDecidable _) a2
   refine Ends.pre (Md a zs r i d k a4 a5 a6 a7 bx bD b0 b1 a3).1.ends (fun α B w D b3 a1=>bm J (fun p M y j=> ?_) a1)
   simp only [List.mem_cons,List.not_mem_nil,or_false] at M
   rcases M with rfl | rfl | rfl | rfl | rfl | rfl | rfl
   ·rw [N] at j;exact j
   ·rw [Z] at j;exact j
   ·rw [ab] at j;rw [← k1];exact j
   ·rw [a0] at j;exact j
   ·rw [O] at j;exact j
   ·rw [S] at j;exact j
   ·rw [U] at j;exact j
  ·cases h
 ·cases h
theorem P2 {L:aE} (h:aB Tryz.prog L):aB Tryz.prog (AP sB kO L):=h.br Q9 ac9
end
end Go.Proofs.YtamcpiicmfielaaGreat.L
namespace Go.Proofs.YtamcpiicmfielaaGreat.L
open Go Go.V Go.RowKit Go.Proofs.YtamcpiicmfielaaGreat.Sp Go.Proofs.YtamcpiicmfielaaGreat.F Go.Proofs.YtamcpiicmfielaaGreatW.PrintWords
open Go.Proofs (Tryz.prog)
noncomputable section
abbrev fL:List Bool:= [false,true,false,true,true,true,true,true,true]
def iP (a:ByteArray) (zs:List Int) (r:ByteArray) (i:Int) (j:ByteArray) (G:ByteArray) (I:ByteArray) (J:ByteArray) (M:ByteArray) (N:ByteArray) (O:ByteArray) (S:ByteArray):List AV:=av 76 [(0, .val (.string a)),(6, .ptr 0 0),(8, .sl false 5 1 0 zs.length),(9, .val (.string r)),(10, .val (.int .i64 i))]
def iu (a:ByteArray) (zs:List Int) (r:ByteArray) (i:Int) (j:ByteArray) (G:ByteArray) (I:ByteArray) (J:ByteArray) (M:ByteArray) (N:ByteArray) (O:ByteArray) (S:ByteArray):Hp:= [.row (.cells [.val (.string j), .val (.string G), .val (.string I), .val (.string J), .val (.string M), .val (.string N), .val (.string O), .val (.string S)]) 176 .live, .row (.ints .u8 zs) 5 .live]
theorem Ra:aJ Tryz.prog 161 fL=some (.loop (lb 161 fL)):=by kernel_rfl
theorem SL:aJ Tryz.prog 161 (false :: fL)=some (lb 161 fL):=by kernel_rfl
theorem M6 (U:Sg) (a0:Il) (ab:HI) (a:ByteArray) (zs:List Int) (r:ByteArray) (i:Int) (j:ByteArray) (G:ByteArray) (I:ByteArray) (J:ByteArray) (M:ByteArray) (N:ByteArray) (O:ByteArray) (S:ByteArray):letI Z:=(U.mg (U.vs (ry r (dC a i.toNat (i+(1:Int)).toNat))));
  (aN Tryz.prog ⟨fA U,ar,AP a0 ab aq⟩ 161 [0,6,8,9,10] (lb 161 fL) (false :: fL) (iP a zs r i j G I J M N O S) (iu a zs r i j G I J M N O S)=(bif decide (i < (↑a.size:Int)) then (bif aj IntKind.i64 (i+(1:Int)) then (bif decide ((0:Int)≤i)&&decide (i≤i+(1:Int))&&decide (i+(1:Int)≤(↑a.size:Int)) then (bif decide (r.size+(dC a i.toNat (i+(1:Int)).toNat).size≤(9223372036854775807:Nat)) then (bif decide (zs.length=zs.length)&&a0 a zs Z i (0:Int) (7:Int) j G I J M N O S then (bif decide ((0:Int)≤i)&&decide (i < (↑zs.length:Int)) then (bif decide ((0:Nat)+i.toNat*(1:Nat) < zs.length) then (bif aj IntKind.i64 (i+(1:Int)) then some (.normal,av 76 [(0,(.val (.string a))),(6,(.ptr 0 0)),(8,(.sl false 5 1 0 zs.length)),(9,(.val (.string ((ab a zs Z i (0:Int) (7:Int) j G I J M N O S).fst)))),(10,(.val (.int .i64 (i+(1:Int)))))], [(.row (.cells [(.val (.string j)),(.val (.string G)),(.val (.string I)),(.val (.string J)),(.val (.string M)),(.val (.string N)),(.val (.string O)),(.val (.string S))]) 176 .live),(.row (.ints .u8 (zs.set ((0:Nat)+i.toNat*(1:Nat)) (IntKind.u8.wrap (ab a zs Z i (0:Int) (7:Int) j G I J M N O S).snd.fst))) 5 .live)]) else none) else none) else none) else none) else none) else none) else none) else some ((.exit 2),av 76 [(0,(.val (.string a))),(6,(.ptr 0 0)),(8,(.sl false 5 1 0 zs.length)),(9,(.val (.string r))),(10,(.val (.int .i64 i)))], [(.row (.cells [(.val (.string j)),(.val (.string G)),(.val (.string I)),(.val (.string J)),(.val (.string M)),(.val (.string N)),(.val (.string O)),(.val (.string S))]) 176 .live),(.row (.ints .u8 zs) 5 .live)]))):=by kernel_rfl
theorem N9 {a:ByteArray} {zs:List Int} {r:ByteArray} {i:Int} {j:ByteArray} {G:ByteArray} {I:ByteArray} {J:ByteArray} {M:ByteArray} {N:ByteArray} {O:ByteArray} {S:ByteArray} {e:Ex} {T:List AV} {H:Hp} (h:aN Tryz.prog ⟨fA aa,ar,AP sB kO aq⟩ 161 [0,6,8,9,10] (lb 161 fL) (false :: fL) (iP a zs r i j G I J M N O S) (iu a zs r i j G I J M N O S)=some (e,T,H)):V.Ends Tryz.prog false 0 0 (lb 161 fL) (iP a zs r i j G I J M N O S) (iu a zs r i j G I J M N O S) e T H:=
 bw zJ (P2 aB.none).ok mixed SL h
def w8 (zs:List Int):List UInt8:=zs.map fun z=>UInt8.ofNat z.toNat
def Jd (B:Nat) (j G I J M N O S:ByteArray):Prop:=j=az (1*B)∧G=az (2*B)∧I=az (4*B)∧J=az (8*B)∧M=az (16*B)∧N=az (32*B)∧O=az (64*B)∧S=az (128*B)
theorem aed (R:Nat) (a:ByteArray) (i:Nat) (h:i < a.size):vS (ry (az R) (dC a i (i+1)))=R*256+(aR a i).toNat∧(dC a i (i+1)).size=1:=by
 have j:i < a.data.toList.length:=by rw [← lX];exact h
 have e:(dC a i (i+1)).data.toList= [a.data.toList[i]]:=by
  show ((a.data.toList.drop i).take (i+1 - i))=_
  rw [List.drop_eq_getElem_cons j,show i+1 - i=1 by omega]
  rfl
 constructor
 ·show vB ((az R).data.toList ++ (dC a i (i+1)).data.toList)=_
  rw [e,vN]
  have G:vB (az R).data.toList=R:=jc R
  rw [G]
  unfold aR
  rw [List.getD_eq_getElem?_getD,List.getElem?_eq_getElem j,Option.getD_some]
  omega
 ·rw [lX,e];rfl
theorem aem (zs:List Int) (q:Nat) (j:q < 256):vB (w8 (zs ++ [(q:Int)]))=vB (w8 zs)*256+q:=by
 unfold w8
 rw [List.map_append,List.map_cons,List.map_nil,vN,Int.toNat_natCast,UInt8.toNat_ofNat']
 omega
theorem take_set (zs:List Int) (i:Nat) (v:Int) (h:i < zs.length):(zs.set i v).take (i+1)=zs.take i ++ [v]:=by
 rw [List.take_succ_eq_append_getElem (by rw [List.length_set];exact h),List.getElem_set_self,List.take_set_of_le (Nat.le_refl i)]
def tX (a:ByteArray) (zs:List Int) (r:ByteArray) (i:Int) (j G I J M N O S:ByteArray):Prop:=∃ B:Nat,0 < B∧bs (256*B)≤8796093022208∧Jd B j G I J M N O S∧i=0∧r=az 0∧zs.length=a.size∧a.size≤8796093022208
def yo (a:ByteArray) (zs:List Int) (r:ByteArray) (i:Int) (j G I J M N O S:ByteArray) (ρ:List Int×ByteArray×Int):Prop:=ρ.1.length=a.size∧vB (w8 ρ.1)=vS a / vS j∧ρ.2.1=az (vS a % vS j)
theorem UH {A B R c q:Nat} (j:0 < B) (I:R=A % B) (N:q=A / B) (S:c < 256):(A*256+c) / B=q*256+(R*256+c) / B∧(A*256+c) % B=(R*256+c) % B∧(R*256+c) / B < 256∧R*256+c < 256*B:=by
 have J:A=B*q+R:=by rw [N,I];exact (Nat.div_add_mod A B).symm
 have O:R < B:=by rw [I];exact Nat.mod_lt _ j
 have M:A*256+c=(R*256+c)+B*(q*256):=by rw [J,Nat.add_mul,Nat.mul_assoc];omega
 have G:R*256+c < 256*B:=by omega
 rw [M,Nat.add_mul_div_left _ _ j,Nat.add_mul_mod_self_left]
 exact ⟨by omega,rfl,(Nat.div_lt_iff_lt_mul j).2 G,G⟩
theorem Vc (a:ByteArray) (j I J M N O S U:ByteArray) (B:Nat) (a4:0 < B) (a5:bs (256*B)≤8796093022208) (c5:Jd B j I J M N O S U) (eb:a.size≤8796093022208) (k:Nat):∀ (i R:Nat) (zs:List Int),i+k=a.size→zs.length=a.size→R=vB (a.data.toList.take i) % B→vB (w8 (zs.take i))=vB (a.data.toList.take i) / B→
  ∃ ρ:List Int×ByteArray×Int,aw Tryz.prog (lb 161 fL) (iP a zs (az R) i j I J M N O S U) (iu a zs (az R) i j I J M N O S U) (.exit 2) (iP a ρ.1 ρ.2.1 ρ.2.2 j I J M N O S U) (iu a ρ.1 ρ.2.1 ρ.2.2 j I J M N O S U)∧ρ.1.length=a.size∧vB (w8 ρ.1)=vS a / B∧ρ.2.1=az (vS a % B):=by
 induction k with
 | zero=>
  intro i R zs c2 a0 Z G
  have c3:i=a.size:=by omega
  subst c3
  have e:a.data.toList.take a.size=a.data.toList:=List.take_of_length_le (by rw [← lX];exact Nat.le_refl _)
  rw [e] at Z G
  rw [List.take_of_length_le (by omega)] at G
  refine ⟨(zs,az R,(a.size:Int)), .last (N9 ?_) (by intro h;cases h),a0,G,by rw [Z];rfl⟩
  rw [M6,dF (show ¬ ((a.size:Int) < a.size) by omega)]
  rfl
 | succ k c6=>
  intro i R zs c2 a0 Z G
  have a6:i < a.size:=by omega
  obtain ⟨ab,bD⟩:=aed R a i a6
  have c0:=lj a i
  obtain ⟨c,c1⟩:∃ c:Nat,aR a i=c:= ⟨(aR a i).toNat,by omega⟩
  have c4:=pO a i a6
  rw [c1] at ab c0 c4
  rw [Int.toNat_natCast] at ab
  obtain ⟨a1,b0,a2,b1⟩:=UH (c:=c) a4 Z G (by omega)
  have a3:vB (a.data.toList.take (i+1))=vB (a.data.toList.take i)*256+c:=by omega
  rw [G] at a1
  obtain ⟨ρ,k1,c7⟩:=c6 (i+1) ((R*256+c) % B) (zs.set i (((R*256+c) / B:Nat):Int)) (by omega) (by rw [List.length_set];exact a0) (by rw [a3,b0]) (by rw [take_set _ _ _ (by omega),aem _ _ a2,a3,a1,G])
  refine ⟨ρ, .more (N9 ?_) k1,c7⟩
  obtain ⟨g0,b4,b5,b6,b7,b8,ch,ct⟩:=c5
  have a7:tW a zs (az (R*256+c)) (i:Int) 0 7 j I J M N O S U:= ⟨R*256+c,B,rfl,rfl,rfl,b1,a5,g0,b4,b5,b6,b7,b8,ch,ct⟩
  obtain ⟨_,p1,p2⟩:=Md _ _ _ _ _ _ _ _ _ _ _ _ _ _ a7
  have c8:vS j=B:=by rw [g0];exact (eI (1*B)).trans (Nat.one_mul B)
  have dx:vS (az (R*256+c))=R*256+c:=eI _
  rw [c8,dx] at p1 p2
  have bx:=M6 aa sB kO a zs (az R) i j I J M N O S U
  have b2:((i:Int)+1).toNat=i+1:=by omega
  have b3:aa.mg (aa.vs (ry (az R) (dC a i (i+1))))=az (R*256+c):=by
   have:aa.vs (ry (az R) (dC a i (i+1)))=R*256+c:=ab
   rw [this];rfl
  have dy:R < B:=by rw [Z];exact Nat.mod_lt _ a4
  have ec:bs R≤8796093022208:=Nat.le_trans (du (by omega)) a5
  rw [b2,Int.toNat_natCast,b3,p1,p2,Nat.zero_add,Nat.mul_one,TH _ _ _ _ _ _ _ _ _ _ _ _ _ _ a7,dT (show (i:Int) < a.size by omega),aO (z:=(i:Int)+1) (by omega),dT (show (0:Int)≤i by omega),dT (show (i:Int)≤i+1 by omega),dT (show (i:Int)+1≤a.size by omega),dT (show (az R).size+(dC a i (i+1)).size≤9223372036854775807 by rw [bD,rl];omega),dT (show zs.length=zs.length from rfl),dT (show (i:Int) < zs.length by omega),dT (show i < zs.length by omega),kC,Nat.mod_eq_of_lt a2] at bx
  rw [bx]
  unfold iP iu
  rw [List.length_set]
  rfl
theorem XH (a:ByteArray) (zs:List Int) (r:ByteArray) (i:Int) (j G I J M N O S:ByteArray) (h:tX a zs r i j G I J M N O S):∃ ρ:List Int×ByteArray×Int,
  aw Tryz.prog (lb 161 fL) (iP a zs r i j G I J M N O S) (iu a zs r i j G I J M N O S) (.exit 2) (iP a ρ.1 ρ.2.1 ρ.2.2 j G I J M N O S) (iu a ρ.1 ρ.2.1 ρ.2.2 j G I J M N O S)∧yo a zs r i j G I J M N O S ρ:=by
 obtain ⟨B,Z,a0,U,rfl,rfl,a1,ab⟩:=h
 have a2:vS j=B:=by rw [U.1];exact (eI (1*B)).trans (Nat.one_mul B)
 unfold yo
 rw [a2]
 exact Vc a j G I J M N O S B Z a0 U ab a.size 0 0 zs (by omega) a1 (by rw [List.take_zero];exact (Nat.zero_mod B).symm) (by rw [List.take_zero,List.take_zero];exact (Nat.zero_div B).symm)
def FW (ab:ByteArray→List Int→ByteArray→Int→ByteArray→ByteArray→ByteArray→ByteArray→ByteArray→ByteArray→ByteArray→ByteArray→Bool) (U:ByteArray→List Int→ByteArray→Int→ByteArray→ByteArray→ByteArray→ByteArray→ByteArray→ByteArray→ByteArray→ByteArray→List Int×ByteArray×Int) (T:List AV) (H:Hp):Option (Bool×Ex×List AV×Hp):=
 match al T 0,al T 6,al T 8,al T 9,al T 10,H with
 | .val (.string a), .ptr 0 0, .sl false 5 1 0 Z, .val (.string r), .val (.int .i64 i), [.row (.cells [.val (.string j), .val (.string G), .val (.string I), .val (.string J), .val (.string M), .val (.string N), .val (.string O), .val (.string S)]) 176 .live, .row (.ints .u8 zs) 5 .live]=>bif T.length==76 then some (decide (Z=zs.length)&&ab a zs r i j G I J M N O S, .exit 2,iP a ((U a zs r i j G I J M N O S).1) ((U a zs r i j G I J M N O S).2.1) ((U a zs r i j G I J M N O S).2.2) j G I J M N O S,iu a ((U a zs r i j G I J M N O S).1) ((U a zs r i j G I J M N O S).2.1) ((U a zs r i j G I J M N O S).2.2) j G I J M N O S) else none
 | _,_,_,_,_,_=>none
abbrev Im:Type:=ByteArray→List Int→ByteArray→Int→ByteArray→ByteArray→ByteArray→ByteArray→ByteArray→ByteArray→ByteArray→ByteArray→Bool
abbrev HJ:Type:=ByteArray→List Int→ByteArray→Int→ByteArray→ByteArray→ByteArray→ByteArray→ByteArray→ByteArray→ByteArray→ByteArray→List Int×ByteArray×Int
def AQ (j:Im) (G:HJ) (L:aE):aE:=bp 0 161 fL [0,6,8,9,10] (FW j G) L
def jO (a:ByteArray) (zs:List Int) (r:ByteArray) (i:Int) (j:ByteArray) (G:ByteArray) (I:ByteArray) (J:ByteArray) (M:ByteArray) (N:ByteArray) (O:ByteArray) (S:ByteArray):List Int×ByteArray×Int:=Classical.epsilon fun ρ=>aw Tryz.prog (lb 161 fL) (iP a zs r i j G I J M N O S) (iu a zs r i j G I J M N O S) (.exit 2) (iP a (ρ.1) (ρ.2.1) (ρ.2.2) j G I J M N O S) (iu a (ρ.1) (ρ.2.1) (ρ.2.2) j G I J M N O S)∧yo a zs r i j G I J M N O S ρ
theorem Me (a:ByteArray) (zs:List Int) (r:ByteArray) (i:Int) (j:ByteArray) (G:ByteArray) (I:ByteArray) (J:ByteArray) (M:ByteArray) (N:ByteArray) (O:ByteArray) (S:ByteArray) (h:tX a zs r i j G I J M N O S):aw Tryz.prog (lb 161 fL) (iP a zs r i j G I J M N O S) (iu a zs r i j G I J M N O S) (.exit 2) (iP a ((jO a zs r i j G I J M N O S).1) ((jO a zs r i j G I J M N O S).2.1) ((jO a zs r i j G I J M N O S).2.2) j G I J M N O S) (iu a ((jO a zs r i j G I J M N O S).1) ((jO a zs r i j G I J M N O S).2.1) ((jO a zs r i j G I J M N O S).2.2) j G I J M N O S)∧yo a zs r i j G I J M N O S (jO a zs r i j G I J M N O S):=Classical.epsilon_spec (XH a zs r i j G I J M N O S h)
def sC (a:ByteArray) (zs:List Int) (r:ByteArray) (i:Int) (j:ByteArray) (G:ByteArray) (I:ByteArray) (J:ByteArray) (M:ByteArray) (N:ByteArray) (O:ByteArray) (S:ByteArray):Bool:= @decide (tX a zs r i j G I J M N O S) (Classical.propDecidable _)
theorem TI (a:ByteArray) (zs:List Int) (r:ByteArray) (i:Int) (j:ByteArray) (G:ByteArray) (I:ByteArray) (J:ByteArray) (M:ByteArray) (N:ByteArray) (O:ByteArray) (S:ByteArray) (h:tX a zs r i j G I J M N O S):sC a zs r i j G I J M N O S=true:= @decide_eq_true _ (Classical.propDecidable _) h
theorem ada (T:List AV) (H:Hp) (e:Ex) (I:List AV) (G:Hp) (h:FW sC jO T H=some (true,e,I,G)):V.Ends Tryz.prog false 0 0 (.loop (lb 161 fL)) T H e I G:=by
 unfold FW at h
 split at h
 ·rename_i a b0 r i a2 a3 a4 a5 a6 a7 bx bD zs N S U Z O
  rw [Bool.cond_eq_ite] at h
  split at h
  ·rename_i J
   rw [beq_iff_eq] at J
   simp only [Option.some.injEq,Prod.mk.injEq,Bool.and_eq_true,decide_eq_true_eq] at h
   obtain ⟨⟨k1,a0⟩,rfl,rfl,rfl⟩:=h
   have a1:= @of_decide_eq_true _ (Classical.propDecidable _) a0
   refine Ends.pre (Me a zs r i a2 a3 a4 a5 a6 a7 bx bD a1).1.ends (fun α B w D b1 ab=>bm J (fun p M y j=> ?_) ab)
   simp only [List.mem_cons,List.not_mem_nil,or_false] at M
   rcases M with rfl | rfl | rfl | rfl | rfl
   ·rw [N] at j;exact j
   ·rw [S] at j;exact j
   ·rw [U] at j;rw [← k1];exact j
   ·rw [Z] at j;exact j
   ·rw [O] at j;exact j
  ·cases h
 ·cases h
theorem P3 {L:aE} (h:aB Tryz.prog L):aB Tryz.prog (AQ sC jO L):=h.br Ra ada
theorem UN (j:Sg) (Z:Im) (ab:HJ) (a b:ByteArray):letI O:=(j.mg (j.vs b+j.vs b));letI J:=(j.mg (j.vs O+j.vs O));letI M:=(j.mg (j.vs J+j.vs J));letI I:=(j.mg (j.vs M+j.vs M));letI U:=(List.replicate (↑a.size:Int).toNat (0:Int));letI N:=(j.mg (j.vs I+j.vs I));letI G:=(j.mg (j.vs N+j.vs N));letI S:=(ab a U (ByteArray.mk #[]) (0:Int) b O J M I N G (j.mg (j.vs G+j.vs G)));
  (aD Tryz.prog ⟨fA j,ar,AQ Z ab aq⟩ 10 10 161 [.val (.string a), .val (.string b)]=(bif j.ok b&&j.ok b then (bif j.ok O&&j.ok O then (bif j.ok J&&j.ok J then (bif j.ok M&&j.ok M then (bif j.ok I&&j.ok I then (bif j.ok N&&j.ok N then (bif j.ok G&&j.ok G then (bif decide ((↑a.size:Int)≤(↑a.size:Int))&&decide ((1:Int)*(↑a.size:Int)≤(281474976710656:Int))&&decide ((↑a.size:Int)≤(9223372036854775807:Int)) then (bif decide ((↑a.size:Int).toNat=U.length)&&Z a U (ByteArray.mk #[]) (0:Int) b O J M I N G (j.mg (j.vs G+j.vs G)) then (bif decide ((0:Nat)+S.fst.length*(1:Nat)≤S.fst.length) then some (.tup [(.val (.string (j.mg (j.vs (ofBytes (List.take (S.fst.length*(1:Nat)) (List.drop (0:Nat) S.fst))))))),(.val (.string (S.snd.fst)))]) else none) else none) else none) else none) else none) else none) else none) else none) else none) else none)):=by kernel_rfl
end
end Go.Proofs.YtamcpiicmfielaaGreat.L
namespace Go.Proofs.YtamcpiicmfielaaGreat.L
open Go Go.V Go.RowKit Go.Proofs.YtamcpiicmfielaaGreat.Sp Go.Proofs.YtamcpiicmfielaaGreat.F Go.Proofs.YtamcpiicmfielaaGreatW.PrintWords
open Go.Proofs (Tryz.prog)
noncomputable section
def lF (s:ByteArray):Bool:=decide (s.size≤4398046511104)
def Fu (j:Sg) (args:List AV):Option (Bool×AV):=match args with | [.val (.string s), .val (.string t)]=>some (lF s&&lF t&&aG t (j.mg (j.vs t))&&decide (0 < j.vs t), .tup [.val (.string (j.mg (j.vs s / j.vs t))), .val (.string (j.mg (j.vs s % j.vs t)))]) | _=>none
theorem Vn:Entry Tryz.prog 161 (Fu aa):=by
 refine aX (E:= ⟨fA aa,ar,AQ sC jO aq⟩) (u:=10) (d:=10) zJ (P3 aB.none).ok mixed (by kernel_rfl) (fun args r h=> ?_)
 unfold Fu at h
 split at h
 ·rename_i a b
  simp only [Option.some.injEq,Prod.mk.injEq,Bool.and_eq_true,decide_eq_true_eq,vy] at h
  obtain ⟨⟨⟨⟨I,G⟩,a5⟩,a6⟩,rfl⟩:=h
  have I:a.size≤4398046511104:=of_decide_eq_true I
  have G:b.size≤4398046511104:=of_decide_eq_true G
  have j:=UN aa sC jO a b
  have bD:=ot b
  generalize b0:aa.vs b=B at*
  subst a5
  have N:∀ n:Nat,aa.vs (aa.mg n)=n:=zG
  have O:B+B=2*B:=by omega
  have S:2*B+2*B=4*B:=by omega
  have U:4*B+4*B=8*B:=by omega
  have Z:8*B+8*B=16*B:=by omega
  have ab:16*B+16*B=32*B:=by omega
  have a0:32*B+32*B=64*B:=by omega
  have a1:64*B+64*B=128*B:=by omega
  have J:bs (256*B)≤8796093022208:=by
   have:=wH 256 B
   have G:bs 256≤2:=ib (by decide)
   omega
  have bo:∀ n:Nat,n≤256*B→aa.ok (aa.mg n)=true:=fun n a7=>dQ (Nat.le_trans (du a7) J)
  have M:tX a (List.replicate a.size 0) (ByteArray.mk #[]) 0 (aa.mg B) (aa.mg (2*B)) (aa.mg (4*B)) (aa.mg (8*B)) (aa.mg (16*B)) (aa.mg (32*B)) (aa.mg (64*B)) (aa.mg (128*B)):=
   ⟨B,a6,J, ⟨by rw [Nat.one_mul];rfl,rfl,rfl,rfl,rfl,rfl,rfl,rfl⟩,rfl,lB.symm,by simp,by omega⟩
  obtain ⟨_,p1,p2,p3⟩:=Me _ _ _ _ _ _ _ _ _ _ _ _ M
  have bx:vS (aa.mg B)=B:=N B
  rw [bx] at p2 p3
  simp only [N,O,S,U,Z,ab,a0,a1,Int.toNat_natCast] at j
  rw [TI _ _ _ _ _ _ _ _ _ _ _ _ M,bo B (by omega),bo (2*B) (by omega),bo (4*B) (by omega),bo (8*B) (by omega),bo (16*B) (by omega),bo (32*B) (by omega),bo (64*B) (by omega)] at j
  generalize jO a (List.replicate a.size 0) (ByteArray.mk #[]) 0 (aa.mg B) (aa.mg (2*B)) (aa.mg (4*B)) (aa.mg (8*B)) (aa.mg (16*B)) (aa.mg (32*B)) (aa.mg (64*B)) (aa.mg (128*B))=ρ at*
  have a2:List.take (ρ.1.length*1) (List.drop 0 ρ.1)=ρ.1:=by rw [List.drop_zero,Nat.mul_one,List.take_length]
  have a3:aa.vs (ofBytes ρ.1)=aa.vs a / B:=p2
  have a4:ρ.2.1=aa.mg (aa.vs a % B):=p3
  rw [a2,a3,a4,dT (show (a.size:Int)≤a.size by omega),dT (show (1:Int)*a.size≤281474976710656 by omega),dT (show (a.size:Int)≤9223372036854775807 by omega),dT (show a.size=(List.replicate a.size (0:Int)).length by simp),dT (show 0+ρ.1.length*1≤ρ.1.length by omega)] at j
  exact j
 ·cases h
def pV (j:Sg):FuncId→List AV→Option (Bool×AV):=an 161 (Fu j) (an 160 (nY j) (an 162 (vI j) (an 124 (kB j) aF)))
theorem zN:bb Tryz.prog (pV aa):=((((aH _).add tf).add Ki).add qp).add Vn
end
end Go.Proofs.YtamcpiicmfielaaGreat.L
namespace Go.Proofs.YtamcpiicmfielaaGreat.L
open Go Go.V Go.RowKit Go.Proofs.YtamcpiicmfielaaGreat.Sp Go.Proofs.YtamcpiicmfielaaGreat.F Go.Proofs.YtamcpiicmfielaaGreatW.PrintWords
open Go.Proofs (Tryz.prog)
noncomputable section
abbrev fT:List Bool:= [false,false,true,true]
def kf (x:ByteArray) (y:ByteArray) (j:Bool) (G:ByteArray):List AV:=av 53 [(4, .ptr 0 0),(5, .val (.string x)),(6, .val (.string y))]
def jv (x:ByteArray) (y:ByteArray) (j:Bool) (G:ByteArray):Hp:= [.row (.cells [.val (.bool j), .val (.string G)]) 81 .live]
theorem Rw:aJ Tryz.prog 128 fT=some (.loop (lb 128 fT)):=by kernel_rfl
theorem S5:aJ Tryz.prog 128 (false :: fT)=some (lb 128 fT):=by kernel_rfl
theorem aaQ (j:Sg) (x:ByteArray) (y:ByteArray) (G:Bool) (I:ByteArray):aN Tryz.prog ⟨pV j,ar,aq⟩ 128 [4,5,6] (lb 128 fT) (false :: fT) (kf x y G I) (jv x y G I)=
  (bif !aG y (ByteArray.mk #[]) then (bif decide ((7:Int) < (↑x.size:Int)) then (bif lF x&&lF y&&aG y (j.mg (j.vs y))&&decide ((0:Nat) < j.vs y) then some (.normal,av 53 [(4,(.ptr 0 0)),(5,(.val (.string y))),(6,(.val (.string (j.mg (j.vs x % j.vs y)))))], [(.row (.cells [(.val (.bool G)),(.val (.string I))]) 81 .live)]) else none) else (bif decide ((7:Int) < (↑y.size:Int)) then (bif lF x&&lF y&&aG y (j.mg (j.vs y))&&decide ((0:Nat) < j.vs y) then some (.normal,av 53 [(4,(.ptr 0 0)),(5,(.val (.string y))),(6,(.val (.string (j.mg (j.vs x % j.vs y)))))], [(.row (.cells [(.val (.bool G)),(.val (.string I))]) 81 .live)]) else none) else some ((.exit 0),av 53 [(4,(.ptr 0 0)),(5,(.val (.string x))),(6,(.val (.string y)))], [(.row (.cells [(.val (.bool G)),(.val (.string I))]) 81 .live)]))) else some ((.exit 0),av 53 [(4,(.ptr 0 0)),(5,(.val (.string x))),(6,(.val (.string y)))], [(.row (.cells [(.val (.bool G)),(.val (.string I))]) 81 .live)])):=by kernel_rfl
theorem E7 {x:ByteArray} {y:ByteArray} {j:Bool} {G:ByteArray} {e:Ex} {T:List AV} {H:Hp} (h:aN Tryz.prog ⟨pV aa,ar,aq⟩ 128 [4,5,6] (lb 128 fT) (false :: fT) (kf x y j G) (jv x y j G)=some (e,T,H)):V.Ends Tryz.prog false 0 0 (lb 128 fT) (kf x y j G) (jv x y j G) e T H:=
 bw zN aK mixed S5 h
theorem Lv (n:Nat):aG (az n) (ByteArray.mk #[])=decide (n=0):=qH n
theorem C2 {n:Nat} (h:bs n≤4398046511104):lF (az n)=true:=decide_eq_true (by rw [rl];exact h)
theorem wK {n:Nat} (h:bs n≤7):n < 72057594037927936:=by
 have:=ni n
 exact Nat.lt_of_lt_of_le this (Nat.pow_le_pow_right (by decide:0 < 256) h)
theorem aaq (I:Bool) (J:ByteArray) (k:Nat):∀ a b:Nat,b=k→bs a≤4398046511104→bs b≤4398046511104→∃ G j:Nat,aw Tryz.prog (lb 128 fT) (kf (az a) (az b) I J) (jv (az a) (az b) I J) (.exit 0) (kf (az G) (az j) I J) (jv (az G) (az j) I J)∧Nat.gcd G j=Nat.gcd a b∧(j=0∨(bs G≤7∧bs j≤7)):=by
 induction k using Nat.strongRecOn with
 | _ k a0=>
  intro a b a3 U O
  have N:=aaQ aa (az a) (az b) I J
  simp only [Lv,eI,rl] at N
  by_cases M:b=0
  ·refine ⟨a,b, .last (E7 ?_) (by intro h;cases h),rfl, .inl M⟩
   rw [N,dT M]
   rfl
  ·by_cases Z:bs a≤7∧bs b≤7
   ·refine ⟨a,b, .last (E7 ?_) (by intro h;cases h),rfl, .inr Z⟩
    rw [N,dF M,dF (show ¬ (7:Int) < (bs a:Nat) by omega),dF (show ¬ (7:Int) < (bs b:Nat) by omega)]
    rfl
   ·have ab:a % b < b:=Nat.mod_lt _ (by omega)
    have a4:=du (Nat.le_of_lt ab)
    obtain ⟨G,j,k1,a1,a2⟩:=a0 (a % b) (by omega) b (a % b) rfl O (by omega)
    refine ⟨G,j, .more (E7 ?_) k1, ?_,a2⟩
    ·have e:aG (az b) (aa.mg b)=true:=pF _
     rw [N,dF M,C2 U,C2 O,e,dT (show 0 < b by omega)]
     by_cases S:(7:Int) < (bs a:Nat)
     ·rw [dT S];rfl
     ·rw [dF S,dT (show (7:Int) < (bs b:Nat) by omega)];rfl
    ·rw [a1,Nat.gcd_comm b,← Nat.gcd_rec,Nat.gcd_comm]
def uy (x y:ByteArray) (j:Bool) (G:ByteArray):Prop:=∃ a b:Nat,x=az a∧y=az b∧bs a≤4398046511104∧bs b≤4398046511104
def Dv (x y:ByteArray) (j:Bool) (G:ByteArray) (r:ByteArray×ByteArray):Prop:=∃ a b:Nat,r.1=az a∧r.2=az b∧Nat.gcd a b=Nat.gcd (vS x) (vS y)∧(b=0∨(bs a≤7∧bs b≤7))
theorem X2 (x y:ByteArray) (j:Bool) (G:ByteArray) (h:uy x y j G):∃ r:ByteArray×ByteArray,aw Tryz.prog (lb 128 fT) (kf x y j G) (jv x y j G) (.exit 0) (kf r.1 r.2 j G) (jv r.1 r.2 j G)∧Dv x y j G r:=by
 obtain ⟨a,b,rfl,rfl,M,N⟩:=h
 obtain ⟨I,J,k1,O,S⟩:=aaq j G b a b rfl M N
 refine ⟨(az I,az J),k1,I,J,rfl,rfl, ?_,S⟩
 rw [O,show vS (az a)=a from eI a,show vS (az b)=b from eI b]
def Gi (J:ByteArray→ByteArray→Bool→ByteArray→Bool) (I:ByteArray→ByteArray→Bool→ByteArray→ByteArray×ByteArray) (T:List AV) (H:Hp):Option (Bool×Ex×List AV×Hp):=
 match al T 4,al T 5,al T 6,H with
 | .ptr 0 0, .val (.string x), .val (.string y), [.row (.cells [.val (.bool j), .val (.string G)]) 81 .live]=>bif T.length==53 then some (J x y j G, .exit 0,kf ((I x y j G).1) ((I x y j G).2) j G,jv ((I x y j G).1) ((I x y j G).2) j G) else none
 | _,_,_,_=>none
abbrev IB:Type:=ByteArray→ByteArray→Bool→ByteArray→Bool
abbrev H3:Type:=ByteArray→ByteArray→Bool→ByteArray→ByteArray×ByteArray
def A5 (j:IB) (G:H3) (L:aE):aE:=bp 0 128 fT [4,5,6] (Gi j G) L
def mI (x:ByteArray) (y:ByteArray) (j:Bool) (G:ByteArray):ByteArray×ByteArray:=Classical.epsilon fun ρ=>aw Tryz.prog (lb 128 fT) (kf x y j G) (jv x y j G) (.exit 0) (kf (ρ.1) (ρ.2) j G) (jv (ρ.1) (ρ.2) j G)∧Dv x y j G ρ
theorem Mu (x:ByteArray) (y:ByteArray) (j:Bool) (G:ByteArray) (h:uy x y j G):aw Tryz.prog (lb 128 fT) (kf x y j G) (jv x y j G) (.exit 0) (kf ((mI x y j G).1) ((mI x y j G).2) j G) (jv ((mI x y j G).1) ((mI x y j G).2) j G)∧Dv x y j G (mI x y j G):=Classical.epsilon_spec (X2 x y j G h)
def sI (x:ByteArray) (y:ByteArray) (j:Bool) (G:ByteArray):Bool:= @decide (uy x y j G) (Classical.propDecidable _)
theorem T5 (x:ByteArray) (y:ByteArray) (j:Bool) (G:ByteArray) (h:uy x y j G):sI x y j G=true:= @decide_eq_true _ (Classical.propDecidable _) h
theorem adx (T:List AV) (H:Hp) (e:Ex) (I:List AV) (G:Hp) (h:Gi sI mI T H=some (true,e,I,G)):V.Ends Tryz.prog false 0 0 (.loop (lb 128 fT)) T H e I G:=by
 unfold Gi at h
 split at h
 ·rename_i x y ab a0 N O S
  rw [Bool.cond_eq_ite] at h
  split at h
  ·rename_i J
   rw [beq_iff_eq] at J
   simp only [Option.some.injEq,Prod.mk.injEq,Bool.and_eq_true,decide_eq_true_eq] at h
   obtain ⟨k1,rfl,rfl,rfl⟩:=h
   have Z:= @of_decide_eq_true _ (Classical.propDecidable _) k1
   refine Ends.pre (Mu x y ab a0 Z).1.ends (fun α B w D a1 U=>bm J (fun p M y j=> ?_) U)
   simp only [List.mem_cons,List.not_mem_nil,or_false] at M
   rcases M with rfl | rfl | rfl
   ·rw [N] at j;exact j
   ·rw [O] at j;exact j
   ·rw [S] at j;exact j
  ·cases h
 ·cases h
theorem Qn {L:aE} (h:aB Tryz.prog L):aB Tryz.prog (A5 sI mI L):=h.br Rw adx
abbrev fU:List Bool:= [false,false,true,true,true,true,true]
def kg (m:Int) (n:Int) (j:Bool) (G:ByteArray):List AV:=av 53 [(4, .ptr 0 0),(9, .val (.int .i64 m)),(10, .val (.int .i64 n))]
def jx (m:Int) (n:Int) (j:Bool) (G:ByteArray):Hp:= [.row (.cells [.val (.bool j), .val (.string G)]) 81 .live]
theorem Rx:aJ Tryz.prog 128 fU=some (.loop (lb 128 fU)):=by kernel_rfl
theorem S6:aJ Tryz.prog 128 (false :: fU)=some (lb 128 fU):=by kernel_rfl
theorem aaR (m:Int) (n:Int) (j:Bool) (G:ByteArray):aN Tryz.prog bj 128 [4,9,10] (lb 128 fU) (false :: fU) (kg m n j G) (jx m n j G)=
  (bif decide ((0:Int) < n) then (bif decide (n=(0:Int)) then none else some (.normal,av 53 [(4,(.ptr 0 0)),(9,(.val (.int .i64 n))),(10,(.val (.int .i64 (m.tmod n))))], [(.row (.cells [(.val (.bool j)),(.val (.string G))]) 81 .live)])) else some ((.exit 2),av 53 [(4,(.ptr 0 0)),(9,(.val (.int .i64 m))),(10,(.val (.int .i64 n)))], [(.row (.cells [(.val (.bool j)),(.val (.string G))]) 81 .live)])):=by kernel_rfl
theorem Oj {m:Int} {n:Int} {j:Bool} {G:ByteArray} {e:Ex} {T:List AV} {H:Hp} (h:aN Tryz.prog bj 128 [4,9,10] (lb 128 fU) (false :: fU) (kg m n j G) (jx m n j G)=some (e,T,H)):V.Ends Tryz.prog false 0 0 (lb 128 fU) (kg m n j G) (jx m n j G) e T H:=
 bw (aH _) aK mixed S6 h
def uz (m n:Int) (j:Bool) (G:ByteArray):Prop:=0≤m∧0≤n
def Dw (m n:Int) (j:Bool) (G:ByteArray) (r:Int×Int):Prop:=r.1=(Nat.gcd m.toNat n.toNat:Nat)
theorem aas (j:Bool) (G:ByteArray) (k:Nat):∀ a b:Nat,b=k→∃ r:Int×Int,aw Tryz.prog (lb 128 fU) (kg a b j G) (jx a b j G) (.exit 2) (kg r.1 r.2 j G) (jx r.1 r.2 j G)∧r.1=(Nat.gcd a b:Nat):=by
 induction k using Nat.strongRecOn with
 | _ k M=>
  intro a b O
  have I:=aaR a b j G
  by_cases J:b=0
  ·refine ⟨((a:Int),(b:Int)), .last (Oj ?_) (by intro h;cases h),by rw [J,Nat.gcd_zero_right]⟩
   rw [I,dF (show ¬ (0:Int) < (b:Int) by omega)]
   rfl
  ·have S:a % b < b:=Nat.mod_lt _ (by omega)
   obtain ⟨r,k1,N⟩:=M (a % b) (by omega) b (a % b) rfl
   refine ⟨r, .more (Oj ?_) k1,by rw [N,Nat.gcd_comm b,← Nat.gcd_rec,Nat.gcd_comm]⟩
   rw [I,dT (show (0:Int) < (b:Int) by omega),dF (show ¬ (b:Int)=0 by omega)]
   rfl
theorem X3 (m n:Int) (j:Bool) (G:ByteArray) (h:uz m n j G):∃ r:Int×Int,aw Tryz.prog (lb 128 fU) (kg m n j G) (jx m n j G) (.exit 2) (kg r.1 r.2 j G) (jx r.1 r.2 j G)∧Dw m n j G r:=by
 obtain ⟨I,J⟩:=h
 obtain ⟨a,rfl⟩:=Int.eq_ofNat_of_zero_le I
 obtain ⟨b,rfl⟩:=Int.eq_ofNat_of_zero_le J
 exact aas j G b a b rfl
def Gj (J:Int→Int→Bool→ByteArray→Bool) (I:Int→Int→Bool→ByteArray→Int×Int) (T:List AV) (H:Hp):Option (Bool×Ex×List AV×Hp):=
 match al T 4,al T 9,al T 10,H with
 | .ptr 0 0, .val (.int .i64 m), .val (.int .i64 n), [.row (.cells [.val (.bool j), .val (.string G)]) 81 .live]=>bif T.length==53 then some (J m n j G, .exit 2,kg ((I m n j G).1) ((I m n j G).2) j G,jx ((I m n j G).1) ((I m n j G).2) j G) else none
 | _,_,_,_=>none
abbrev IC:Type:=Int→Int→Bool→ByteArray→Bool
abbrev H4:Type:=Int→Int→Bool→ByteArray→Int×Int
def A6 (j:IC) (G:H4) (L:aE):aE:=bp 0 128 fU [4,9,10] (Gj j G) L
def lP (m:Int) (n:Int) (j:Bool) (G:ByteArray):Int×Int:=Classical.epsilon fun ρ=>aw Tryz.prog (lb 128 fU) (kg m n j G) (jx m n j G) (.exit 2) (kg (ρ.1) (ρ.2) j G) (jx (ρ.1) (ρ.2) j G)∧Dw m n j G ρ
theorem Mv (m:Int) (n:Int) (j:Bool) (G:ByteArray) (h:uz m n j G):aw Tryz.prog (lb 128 fU) (kg m n j G) (jx m n j G) (.exit 2) (kg ((lP m n j G).1) ((lP m n j G).2) j G) (jx ((lP m n j G).1) ((lP m n j G).2) j G)∧Dw m n j G (lP m n j G):=Classical.epsilon_spec (X3 m n j G h)
def sJ (m:Int) (n:Int) (j:Bool) (G:ByteArray):Bool:= @decide (uz m n j G) (Classical.propDecidable _)
theorem T6 (m:Int) (n:Int) (j:Bool) (G:ByteArray) (h:uz m n j G):sJ m n j G=true:= @decide_eq_true _ (Classical.propDecidable _) h
theorem ady (T:List AV) (H:Hp) (e:Ex) (I:List AV) (G:Hp) (h:Gj sJ lP T H=some (true,e,I,G)):V.Ends Tryz.prog false 0 0 (.loop (lb 128 fU)) T H e I G:=by
 unfold Gj at h
 split at h
 ·rename_i m n ab a0 O S N
  rw [Bool.cond_eq_ite] at h
  split at h
  ·rename_i J
   rw [beq_iff_eq] at J
   simp only [Option.some.injEq,Prod.mk.injEq,Bool.and_eq_true,decide_eq_true_eq] at h
   obtain ⟨k1,rfl,rfl,rfl⟩:=h
   have Z:= @of_decide_eq_true _ (Classical.propDecidable _) k1
   refine Ends.pre (Mv m n ab a0 Z).1.ends (fun α B w D a1 U=>bm J (fun p M y j=> ?_) U)
   simp only [List.mem_cons,List.not_mem_nil,or_false] at M
   rcases M with rfl | rfl | rfl
   ·rw [O] at j;exact j
   ·rw [S] at j;exact j
   ·rw [N] at j;exact j
  ·cases h
 ·cases h
theorem Qo {L:aE} (h:aB Tryz.prog L):aB Tryz.prog (A6 sJ lP L):=h.br Rx ady
theorem aar (j:Sg) (J:IB) (N:H3) (M:IC) (O:H4) (b c:Bool) (s t:ByteArray):letI G:=(N (j.mg (j.vs s)) (j.mg (j.vs t)) false (ByteArray.mk #[]));letI I:=(O (↑(j.vs G.fst):Int) (↑(j.vs G.snd):Int) false (ByteArray.mk #[]));
  (aD Tryz.prog ⟨pV j,ar,A5 J N (A6 M O aq)⟩ 10 10 128 [.agg [.val (.bool b), .val (.string s)], .agg [.val (.bool c), .val (.string t)]]=(bif J (j.mg (j.vs s)) (j.mg (j.vs t)) false (ByteArray.mk #[]) then (bif aG G.snd (ByteArray.mk #[]) then some (.agg [(.val (.bool false)),(.val (.string (G.fst)))]) else (bif decide (G.fst.size≤(8:Nat))&&decide (j.vs G.fst < (9223372036854775808:Nat)) then (bif decide (G.snd.size≤(8:Nat))&&decide (j.vs G.snd < (9223372036854775808:Nat)) then (bif M (↑(j.vs G.fst):Int) (↑(j.vs G.snd):Int) false (ByteArray.mk #[]) then (bif cI I.fst then some (.agg [(.val (.bool (j.ng I.fst))),(.val (.string (j.ms I.fst)))]) else none) else none) else none) else none)) else none)):=by kernel_rfl
def yY (j:Sg) (X:Xg) (args:List AV):Option (Bool×AV):=match args with | [.agg [.val (.bool b), .val (.string s)], .agg [.val (.bool c), .val (.string t)]]=>some (X.cj s&&X.cj t,j.int (X.gcd (j.val b s) (j.val c t))) | _=>none
theorem VM (X:Xg) (U:X.gcd=fun x y=>(Nat.gcd x.natAbs y.natAbs:Int)) (O:X.cj=fun s=>decide (s.size≤68719476736)):Entry Tryz.prog 128 (yY aa X):=by
 refine aX (E:= ⟨pV aa,ar,A5 sI mI (A6 sJ lP aq)⟩) (u:=10) (d:=10) zN (Qn (Qo aB.none)).ok mixed (by kernel_rfl) (fun args r h=> ?_)
 unfold yY at h
 split at h
 ·rename_i b s c t
  rw [O,U] at h
  simp only [Option.some.injEq,Prod.mk.injEq,Bool.and_eq_true,decide_eq_true_eq] at h
  obtain ⟨⟨a7,bx⟩,rfl⟩:=h
  have J:=aar aa sI mI sJ lP b c s t
  have k1:=ot s
  have b0:=ot t
  have M:uy (aa.mg (aa.vs s)) (aa.mg (aa.vs t)) false (ByteArray.mk #[]):= ⟨aa.vs s,aa.vs t,rfl,rfl,by omega,by omega⟩
  obtain ⟨_,a,e,ab,a0,G,a1⟩:=Mu _ _ _ _ M
  have a4:vS (aa.mg (aa.vs s))=aa.vs s:=zG _
  have v2:vS (aa.mg (aa.vs t))=aa.vs t:=zG _
  rw [a4,v2] at G
  rw [T5 _ _ _ _ M,ab,a0,Lv] at J
  rw [J,← lf b s,← lf c t]
  have S:∀ g:Nat,aa.int (g:Int)= .agg [.val (.bool false), .val (.string (az g))]:=fun g=>tA (Int.natCast_nonneg g)
  by_cases j:e=0
  ·rw [j,Nat.gcd_zero_right] at G
   rw [dT j,← G,S];rfl
  ·obtain ⟨a2,a3⟩:=a1.resolve_left j
   have b1:=wK a2
   have b2:=wK a3
   have a5:aa.vs (az a)=a:=eI a
   have a6:aa.vs (az e)=e:=eI e
   have N:uz (a:Int) (e:Int) false (ByteArray.mk #[]):= ⟨by omega,by omega⟩
   obtain ⟨_,I⟩:=Mv _ _ _ _ N
   have I:(lP (a:Int) (e:Int) false (ByteArray.mk #[])).1=(Nat.gcd a e:Nat):=I
   have bD:Nat.gcd a e≤e:=Nat.gcd_le_right _ (by omega)
   rw [dF j,rl,rl,a5,a6,dT (show bs a≤8 by omega),dT (show bs e≤8 by omega),dT (show a < 9223372036854775808 by omega),dT (show e < 9223372036854775808 by omega),T6 _ _ _ _ N,I]
   have Z:cI ((Nat.gcd a e:Nat):Int)=true:=by
    unfold cI
    rw [Bool.and_eq_true,decide_eq_true_eq,decide_eq_true_eq]
    omega
   rw [Z,G]
   rfl
 ·cases h
end
end Go.Proofs.YtamcpiicmfielaaGreat.L
namespace Go.Proofs.YtamcpiicmfielaaGreat.L
open Go Go.V Go.RowKit Go.Proofs.YtamcpiicmfielaaGreat.Sp Go.Proofs.YtamcpiicmfielaaGreat.F Go.Proofs.YtamcpiicmfielaaGreatW.PrintWords
open Go.Proofs (Tryz.prog)
noncomputable section
def vW (j:Sg):FuncId→List AV→Option (Bool×AV):=an 130 (nU j) (an 127 (kX j) (an 163 (rK j) (pV j)))
theorem PH:bb Tryz.prog (vW aa):=((zN.add VX).add B2).add sZ
theorem aab (j:Sg) (b c:Bool) (s t:ByteArray):letI U:=(j.mg (j.vs (j.ms (j.val b s)) / j.vs (j.ms (j.val c t))));letI I:=(j.mg (j.vs (j.ms (j.val b s)) % j.vs (j.ms (j.val c t))));letI N:=(-j.val false U);letI S:=(j.val false (j.ms (j.val c t)) - j.val false I);letI a0:=(j.val (j.ng N) (j.ms N) - j.val (j.ng (1:Int)) (j.ms (1:Int)));letI a1:Option AV:=(bif lF (j.ms (j.val b s))&&lF (j.ms (j.val c t))&&aG (j.ms (j.val c t)) (j.mg (j.vs (j.ms (j.val c t))))&&decide ((0:Nat) < j.vs (j.ms (j.val c t))) then (bif bif true then !j.ng (j.val b s)==j.ng (j.val c t) else j.ng (j.val b s)==j.ng (j.val c t) then (bif j.ok U then (bif !aG I (ByteArray.mk #[]) then (bif j.ok (j.ms N)&&j.ok (j.ms (1:Int)) then (bif j.ok (j.ms (j.val c t))&&j.ok I then (bif j.ng (j.val c t) then (bif j.ok (j.ms S) then some (.tup [(.agg [(.val (.bool (j.ng a0))),(.val (.string (j.ms a0)))]),(.agg [(.val (.bool (j.ng (-j.val (j.ng S) (j.ms S))))),(.val (.string (j.ms (-j.val (j.ng S) (j.ms S)))))]),(.val (.int .i64 0))]) else none) else some (.tup [(.agg [(.val (.bool (j.ng a0))),(.val (.string (j.ms a0)))]),(.agg [(.val (.bool (j.ng S))),(.val (.string (j.ms S)))]),(.val (.int .i64 0))])) else none) else none) else (bif j.ng (j.val c t) then (bif j.ok I then some (.tup [(.agg [(.val (.bool (j.ng N))),(.val (.string (j.ms N)))]),(.agg [(.val (.bool (j.ng (-j.val false I)))),(.val (.string (j.ms (-j.val false I))))]),(.val (.int .i64 0))]) else none) else some (.tup [(.agg [(.val (.bool (j.ng N))),(.val (.string (j.ms N)))]),(.agg [(.val (.bool false)),(.val (.string I))]),(.val (.int .i64 0))]))) else none) else (bif j.ng (j.val c t) then (bif j.ok I then some (.tup [(.agg [(.val (.bool false)),(.val (.string U))]),(.agg [(.val (.bool (j.ng (-j.val false I)))),(.val (.string (j.ms (-j.val false I))))]),(.val (.int .i64 0))]) else none) else some (.tup [(.agg [(.val (.bool false)),(.val (.string U))]),(.agg [(.val (.bool false)),(.val (.string I))]),(.val (.int .i64 0))]))) else none);letI Z:=(↑(j.vs (j.ms (j.val c t))):Int);letI J:=((↑(j.vs (j.ms (j.val b s))):Int).tdiv Z);letI G:=((↑(j.vs (j.ms (j.val b s))):Int).tmod Z);letI M:=(-j.val (j.ng J) (j.ms J));letI ab:=(j.val (j.ng M) (j.ms M) - j.val (j.ng (1:Int)) (j.ms (1:Int)));letI O:=(j.val false (j.ms (j.val c t)) - j.val (j.ng G) (j.ms G));
  (aD Tryz.prog ⟨vW j,ar,aq⟩ 10 10 129 [.agg [.val (.bool b), .val (.string s)], .agg [.val (.bool c), .val (.string t)]]=(bif aG (j.ms (j.val c t)) (ByteArray.mk #[]) then some (.tup [(.agg [(.val (.bool false)),(.val (.string (ByteArray.mk #[])))]),(.agg [(.val (.bool false)),(.val (.string (ByteArray.mk #[])))]),(.val (.int .i64 10))]) else (bif decide ((↑(j.ms (j.val b s)).size:Int) < (8:Int)) then (bif decide ((↑(j.ms (j.val c t)).size:Int) < (8:Int)) then (bif decide ((j.ms (j.val b s)).size≤(8:Nat))&&decide (j.vs (j.ms (j.val b s)) < (9223372036854775808:Nat)) then (bif decide ((j.ms (j.val c t)).size≤(8:Nat))&&decide (j.vs (j.ms (j.val c t)) < (9223372036854775808:Nat)) then (bif decide (Z=(0:Int)) then none else (bif aj IntKind.i64 J then (bif cI J then (bif decide (Z=(0:Int)) then none else (bif cI G then (bif bif true then !j.ng (j.val b s)==j.ng (j.val c t) else j.ng (j.val b s)==j.ng (j.val c t) then (bif j.ok (j.ms J) then (bif !aG (j.ms G) (ByteArray.mk #[]) then (bif j.ok (j.ms M)&&j.ok (j.ms (1:Int)) then (bif j.ok (j.ms (j.val c t))&&j.ok (j.ms G) then (bif j.ng (j.val c t) then (bif j.ok (j.ms O) then some (.tup [(.agg [(.val (.bool (j.ng ab))),(.val (.string (j.ms ab)))]),(.agg [(.val (.bool (j.ng (-j.val (j.ng O) (j.ms O))))),(.val (.string (j.ms (-j.val (j.ng O) (j.ms O)))))]),(.val (.int .i64 0))]) else none) else some (.tup [(.agg [(.val (.bool (j.ng ab))),(.val (.string (j.ms ab)))]),(.agg [(.val (.bool (j.ng O))),(.val (.string (j.ms O)))]),(.val (.int .i64 0))])) else none) else none) else (bif j.ng (j.val c t) then (bif j.ok (j.ms G) then some (.tup [(.agg [(.val (.bool (j.ng M))),(.val (.string (j.ms M)))]),(.agg [(.val (.bool (j.ng (-j.val (j.ng G) (j.ms G))))),(.val (.string (j.ms (-j.val (j.ng G) (j.ms G)))))]),(.val (.int .i64 0))]) else none) else some (.tup [(.agg [(.val (.bool (j.ng M))),(.val (.string (j.ms M)))]),(.agg [(.val (.bool (j.ng G))),(.val (.string (j.ms G)))]),(.val (.int .i64 0))]))) else none) else (bif j.ng (j.val c t) then (bif j.ok (j.ms G) then some (.tup [(.agg [(.val (.bool (j.ng J))),(.val (.string (j.ms J)))]),(.agg [(.val (.bool (j.ng (-j.val (j.ng G) (j.ms G))))),(.val (.string (j.ms (-j.val (j.ng G) (j.ms G)))))]),(.val (.int .i64 0))]) else none) else some (.tup [(.agg [(.val (.bool (j.ng J))),(.val (.string (j.ms J)))]),(.agg [(.val (.bool (j.ng G))),(.val (.string (j.ms G)))]),(.val (.int .i64 0))]))) else none)) else none) else none)) else none) else none) else a1) else a1))):=by kernel_rfl
end
end Go.Proofs.YtamcpiicmfielaaGreat.L
namespace Go.Proofs.YtamcpiicmfielaaGreat.L
open Go Go.V Go.RowKit Go.Proofs.YtamcpiicmfielaaGreat.Sp Go.Proofs.YtamcpiicmfielaaGreat.F
open Go.Proofs (Tryz.prog)
noncomputable section
def yV (j:Sg) (X:Xg) (args:List AV):Option (Bool×AV):=match args with | [.agg [.val (.bool b), .val (.string s)], .agg [.val (.bool c), .val (.string t)]]=>some (X.cj s&&X.cj t, .tup [j.int (X.dq (j.val b s) (j.val c t)),j.int (X.dr (j.val b s) (j.val c t)), .val (.int .i64 (X.de (j.val c t)))]) | _=>none
theorem aef (n:Nat):aa.val false (aa.mg n)=(n:Int):=congrArg Int.ofNat (zG n)
theorem aeg (z:Int):aa.val false (aa.ms z)=(z.natAbs:Int):=congrArg Int.ofNat (pQ z)
theorem Yv (n:Nat):aG (aa.mg n) (ByteArray.mk #[])=decide (n=0):=qH n
theorem div_val {x y:Int} (U:y≠0) (Q R:Nat) (O:x.natAbs / y.natAbs=Q) (N:x.natAbs % y.natAbs=R):
  ((x < 0↔y < 0)→zq x y=Q∧zr x y=if y < 0 then -(R:Int) else R)∧(¬ (x < 0↔y < 0)→R=0→zq x y= -(Q:Int)∧zr x y=0)∧(¬ (x < 0↔y < 0)→R≠0→zq x y= -(Q:Int) - 1∧zr x y=if y < 0 then -((y.natAbs:Int) - R) else (y.natAbs:Int) - R):=by
 have S:R < y.natAbs:=by rw [← N];exact Nat.mod_lt _ (by omega)
 have J:(x.natAbs:Int)=(y.natAbs:Int)*Q+R:=by
  rw [← O,← N,← Int.natCast_mul,← Int.natCast_add,Nat.div_add_mod]
 refine ⟨fun h=> ?_,fun h M=> ?_,fun h M=> ?_⟩
 ·apply tu
  ·by_cases j:y < 0
   ·rw [if_pos j]
    have I:(x.natAbs:Int)= -x:=by have:=h.2 j;omega
    have G:(y.natAbs:Int)= -y:=by omega
    rw [I,G] at J
    grind
   ·rw [if_neg j]
    have I:(x.natAbs:Int)=x:=by have:¬ x < 0:=fun h'=>j (h.1 h');omega
    have G:(y.natAbs:Int)=y:=by omega
    rw [I,G] at J
    grind
  ·by_cases j:y < 0
   ·rw [if_pos j];omega
   ·rw [if_neg j];omega
 ·apply tu
  ·by_cases j:y < 0
   ·have I:(x.natAbs:Int)=x:=by have:¬ x < 0:=fun h'=>h ⟨fun _=>j,fun _=>h'⟩;omega
    have G:(y.natAbs:Int)= -y:=by omega
    rw [I,G,M] at J
    grind
   ·have I:(x.natAbs:Int)= -x:=by
     have:x < 0:=Classical.byContradiction fun h'=>h ⟨fun k=>absurd k h',fun k=>absurd k j⟩
     omega
    have G:(y.natAbs:Int)=y:=by omega
    rw [I,G,M] at J
    grind
  ·omega
 ·apply tu
  ·by_cases j:y < 0
   ·rw [if_pos j]
    have I:(x.natAbs:Int)=x:=by have:¬ x < 0:=fun h'=>h ⟨fun _=>j,fun _=>h'⟩;omega
    have G:(y.natAbs:Int)= -y:=by omega
    rw [I,G] at J
    rw [G]
    grind
   ·rw [if_neg j]
    have I:(x.natAbs:Int)= -x:=by
     have:x < 0:=Classical.byContradiction fun h'=>h ⟨fun k=>absurd k h',fun k=>absurd k j⟩
     omega
    have G:(y.natAbs:Int)=y:=by omega
    rw [I,G] at J
    rw [G]
    grind
  ·by_cases j:y < 0
   ·rw [if_pos j];omega
   ·rw [if_neg j];omega
theorem VK (X:Xg) (b0:X.dq=zq) (b1:X.dr=zr) (bD:X.de=ze) (bx:X.cj=fun s=>decide (s.size≤68719476736)):Entry Tryz.prog 129 (yV aa X):=by
 refine aX (E:= ⟨vW aa,ar,aq⟩) (u:=10) (d:=10) PH aK mixed (by kernel_rfl) (fun args r h=> ?_)
 unfold yV at h
 split at h
 ·rename_i b s c t
  rw [bx,b0,b1,bD] at h
  simp only [Option.some.injEq,Prod.mk.injEq,Bool.and_eq_true,decide_eq_true_eq] at h
  obtain ⟨⟨b7,b8⟩,rfl⟩:=h
  have M:=aab aa b c s t
  have k1:=dv b s
  have c6:=dv c t
  simp only [dp,pQ,aef,aeg,Yv,qJ,pC] at M
  generalize aa.val b s=x at*
  generalize aa.val c t=y at*
  have z0:∀ z,aa.int z= .agg [.val (.bool (aa.ng z)), .val (.string (aa.ms z))]:=fun z=>rfl
  by_cases O:y=0
  ·rw [dT O] at M
   rw [M,O,Ch]
   have I:zq x 0=0:=if_pos rfl
   have J:zr x 0=0:=if_pos rfl
   rw [I,J,tA (Int.le_refl 0)]
   have a7:aa.mg (0:Int).natAbs=ByteArray.mk #[]:=lB
   rw [a7];rfl
  ·obtain ⟨U,v2,a5⟩:=div_val (x:=x) O _ _ rfl rfl
   have c0:x.natAbs % y.natAbs < y.natAbs:=Nat.mod_lt _ (by omega)
   have c2:=Nat.mod_le x.natAbs y.natAbs
   have ct:=Nat.div_le_self x.natAbs y.natAbs
   have b5:((x.natAbs:Nat):Int).tdiv ((y.natAbs:Nat):Int)=((x.natAbs / y.natAbs:Nat):Int):=rfl
   have b6:((x.natAbs:Nat):Int).tmod ((y.natAbs:Nat):Int)=((x.natAbs % y.natAbs:Nat):Int):=rfl
   rw [b5,b6,cQ x,cQ y] at M
   have c3:=sj (x.natAbs+y.natAbs) 1
   have c4:=sj x.natAbs y.natAbs
   have c5:bs 1≤1:=ib (by decide)
   have oV:∀ z:Int,z.natAbs≤x.natAbs+y.natAbs+1→aa.ok (aa.ms z)=true:=fun z Z=>bA (Nat.le_trans (du Z) (by omega))
   have yh:∀ n:Nat,n≤x.natAbs+y.natAbs+1→aa.ok (aa.mg n)=true:=fun n j=>dQ (Nat.le_trans (du j) (by omega))
   have a4:∀ z:Int,z.natAbs≤x.natAbs+y.natAbs+1→lF (aa.ms z)=true:=fun z Z=>C2 (Nat.le_trans (du Z) (by omega))
   have b2:aG (aa.ms y) (aa.mg y.natAbs)=true:=pF _
   rw [dF O,oV y (by omega),oV 1 (by omega),a4 x (by omega),a4 y (by omega),b2,dT (show 0 < y.natAbs by omega),dF (show ¬ ((y.natAbs:Nat):Int)=0 by omega)] at M
   generalize ch:x.natAbs / y.natAbs=Q at*
   generalize c1:x.natAbs % y.natAbs=R at*
   rw [yh Q (by omega),yh R (by omega),oV (Q:Int) (by omega),oV (R:Int) (by omega),oV (-(Q:Int)) (by omega),oV ((y.natAbs:Int) - (R:Int)) (by omega)] at M
   rw [Ci O]
   have a2:=tA (z:=(Q:Int)) (by omega)
   have S:=tA (z:=(R:Int)) (by omega)
   rw [Int.natAbs_natCast] at a2 S
   have a0:∀ u:Bool,(bif u then (bs x.natAbs≤7∧bs y.natAbs≤7) else ¬ (bs x.natAbs≤7∧bs y.natAbs≤7))=True→aD Tryz.prog ⟨vW aa,ar,aq⟩ 10 10 129 [.agg [.val (.bool b), .val (.string s)], .agg [.val (.bool c), .val (.string t)]]=some (.tup [aa.int (zq x y),aa.int (zr x y), .val (.int .i64 0)]):=by
    intro u N
    have a3:(x < 0↔y < 0)∨(¬ (x < 0↔y < 0)∧R=0)∨(¬ (x < 0↔y < 0)∧R≠0):=by
     by_cases ab:(x < 0↔y < 0)
     ·exact .inl ab
     ·by_cases G:R=0
      ·exact .inr (.inl ⟨ab,G⟩)
      ·exact .inr (.inr ⟨ab,G⟩)
    cases u with
    | true=>
     have N:bs x.natAbs≤7∧bs y.natAbs≤7:=of_eq_true N
     have c7:=wK N.1
     have c8:=wK N.2
     have b3:cI (Q:Int)=true:=by unfold cI;rw [Bool.and_eq_true,decide_eq_true_eq,decide_eq_true_eq];omega
     have b4:cI (R:Int)=true:=by unfold cI;rw [Bool.and_eq_true,decide_eq_true_eq,decide_eq_true_eq];omega
     rw [dT (show ((bs x.natAbs:Nat):Int) < 8 by omega),dT (show ((bs y.natAbs:Nat):Int) < 8 by omega),dT (show bs x.natAbs≤8 by omega),dT (show bs y.natAbs≤8 by omega),dT (show x.natAbs < 9223372036854775808 by omega),dT (show y.natAbs < 9223372036854775808 by omega),aO (z:=(Q:Int)) (by omega),b3,b4] at M
     rw [M]
     rcases a3 with q | ⟨q,G⟩ | ⟨q,G⟩
     ·rw [(U q).1,(U q).2,si q]
      by_cases j:y < 0
      ·rw [dT j,if_pos j];rfl
      ·rw [dF j,if_neg j];rfl
     ·obtain ⟨I,J⟩:=v2 q G
      rw [I,J,wF q,G,dT (show ((0:Nat):Int)=0 from rfl)]
      by_cases j:y < 0
      ·rw [dT j];rfl
      ·rw [dF j];rfl
     ·obtain ⟨I,J⟩:=a5 q G
      rw [I,J,wF q,dF (show ¬ ((R:Nat):Int)=0 by omega)]
      by_cases j:y < 0
      ·rw [dT j,if_pos j];rfl
      ·rw [dF j,if_neg j];rfl
    | false=>
     have N:¬ (bs x.natAbs≤7∧bs y.natAbs≤7):=of_eq_true N
     rw [M]
     have a6:∀ (X Y:Option AV),(bif decide (((bs x.natAbs:Nat):Int) < 8) then (bif decide (((bs y.natAbs:Nat):Int) < 8) then X else Y) else Y)=Y:=by
      intro X Y
      by_cases p1:bs x.natAbs≤7
      ·rw [dT (show ((bs x.natAbs:Nat):Int) < 8 by omega),dF (show ¬ ((bs y.natAbs:Nat):Int) < 8 by omega)];rfl
      ·rw [dF (show ¬ ((bs x.natAbs:Nat):Int) < 8 by omega)];rfl
     rw [cond_false,a6]
     rcases a3 with q | ⟨q,G⟩ | ⟨q,G⟩
     ·rw [(U q).1,(U q).2,si q,a2]
      by_cases j:y < 0
      ·rw [dT j,if_pos j];rfl
      ·rw [dF j,if_neg j,S];rfl
     ·obtain ⟨I,J⟩:=v2 q G
      rw [G] at S
      rw [I,J,wF q,G,dT (show (0:Nat)=0 from rfl)]
      by_cases j:y < 0
      ·rw [dT j];rfl
      ·rw [dF j,show (0:Int)=((0:Nat):Int) from rfl,S];rfl
     ·obtain ⟨I,J⟩:=a5 q G
      rw [I,J,wF q,dF G]
      by_cases j:y < 0
      ·rw [dT j,if_pos j];rfl
      ·rw [dF j,if_neg j];rfl
   by_cases a1:bs x.natAbs≤7∧bs y.natAbs≤7
   ·exact a0 true (eq_true a1)
   ·exact a0 false (eq_true a1)
 ·cases h
end
end Go.Proofs.YtamcpiicmfielaaGreat.L
