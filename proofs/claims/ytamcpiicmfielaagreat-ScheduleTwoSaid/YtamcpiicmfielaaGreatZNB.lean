import Derived.Test.YtamcpiicmfielaaGreatZNA
import Derived.Test.YtamcpiicmfielaaGreatZMD
set_option linter.unusedVariables false
set_option linter.unusedSimpArgs false
namespace Go.Proofs.YtamcpiicmfielaaGreat.L
open Go Go.V Go.RowKit Go.Proofs.YtamcpiicmfielaaGreat.Sp Go.Proofs.YtamcpiicmfielaaGreat.F Go.Proofs.YtamcpiicmfielaaGreatW.PrintWords
open Go.Proofs (Tryz.prog)
noncomputable section
def fQ (S:Sg):FuncId→List AV→Option (Bool×AV):=aw 133 (wJ S) (aw 137 (Ax S) (aw 160 (oV S) (aw 136 (As S) aK)))
theorem AS:bf Tryz.prog (fQ aa):=((((aJ _).add Lx).add ry).add LF).add De
abbrev bX:List Bool:= [false,true,false,true,true,false,false,true,false,false,true,false,true,true,true,true,true,true]
def cu (a:ByteArray) (zs:List Int) (r:ByteArray) (i d k:Int) (G I J M O U Z ab:ByteArray):List AV:=ar 76 [(0, .val (.string a)),(6, .ptr 0 0),(8, .sl false 5 1 0 zs.length),(9, .val (.string r)),(10, .val (.int .i64 i)),(11, .val (.int .i64 d)),(12, .val (.int .i64 k))]
def cr (a:ByteArray) (zs:List Int) (r:ByteArray) (i d k:Int) (G I J M O U Z ab:ByteArray):Hp:= [.row (.cells [.val (.string G), .val (.string I), .val (.string J), .val (.string M), .val (.string O), .val (.string U), .val (.string Z), .val (.string ab)]) 176 .live, .row (.ints .u8 zs) 5 .live]
theorem Tm:aH Tryz.prog 161 bX=some (.loop (lb 161 bX)):=by kernel_rfl
theorem U7:aH Tryz.prog 161 (false :: bX)=some (lb 161 bX):=by kernel_rfl
theorem nJ {a:ByteArray} {zs:List Int} {r:ByteArray} {i d k:Int} {G I J M O U Z ab:ByteArray} {e:Ex} {T:List AV} {H:Hp} (h:aO Tryz.prog ⟨fQ aa,au,aq⟩ 161 [0,6,8,9,10,11,12] (lb 161 bX) (false :: bX) (cu a zs r i d k G I J M O U Z ab) (cr a zs r i d k G I J M O U Z ab)=some (e,T,H)):V.Ends Tryz.prog false 0 0 (lb 161 bX) (cu a zs r i d k G I J M O U Z ab) (cr a zs r i d k G I J M O U Z ab) e T H:=
 bF AS aN mixed U7 h
theorem Xj (S:Sg) (a:ByteArray) (zs:List Int) (r:ByteArray) (i d:Int) (I J M O U Z ab G:ByteArray):aO Tryz.prog ⟨fQ S,au,aq⟩ 161 [0,6,8,9,10,11,12] (lb 161 bX) (false :: bX) (cu a zs r i d (7) I J M O U Z ab G) (cr a zs r i d (7) I J M O U Z ab G)=
  (bif aG r (S.mg (S.vs r))&&aG G (S.mg (S.vs G)) then (bif decide (0≤S.cmp (S.vs r) (S.vs G)) then (bif S.ok r&&S.ok G&&decide (S.vs G≤S.vs r) then (bif ai IntKind.i64 (d+128) then some (.normal,ar 76 [(0,(.val (.string a))),(6,(.ptr 0 0)),(8,(.sl false 5 1 0 zs.length)),(9,(.val (.string (S.mg (S.vs r - S.vs G))))),(10,(.val (.int .i64 i))),(11,(.val (.int .i64 (d+128)))),(12,(.val (.int .i64 6)))], [(.row (.cells [(.val (.string I)),(.val (.string J)),(.val (.string M)),(.val (.string O)),(.val (.string U)),(.val (.string Z)),(.val (.string ab)),(.val (.string G))]) 176 .live),(.row (.ints .u8 zs) 5 .live)]) else none) else none) else some (.normal,ar 76 [(0,(.val (.string a))),(6,(.ptr 0 0)),(8,(.sl false 5 1 0 zs.length)),(9,(.val (.string r))),(10,(.val (.int .i64 i))),(11,(.val (.int .i64 d))),(12,(.val (.int .i64 6)))], [(.row (.cells [(.val (.string I)),(.val (.string J)),(.val (.string M)),(.val (.string O)),(.val (.string U)),(.val (.string Z)),(.val (.string ab)),(.val (.string G))]) 176 .live),(.row (.ints .u8 zs) 5 .live)])) else none):=by kernel_rfl
theorem Xi (S:Sg) (a:ByteArray) (zs:List Int) (r:ByteArray) (i d:Int) (I J M O U Z G ab:ByteArray):aO Tryz.prog ⟨fQ S,au,aq⟩ 161 [0,6,8,9,10,11,12] (lb 161 bX) (false :: bX) (cu a zs r i d (6) I J M O U Z G ab) (cr a zs r i d (6) I J M O U Z G ab)=
  (bif aG r (S.mg (S.vs r))&&aG G (S.mg (S.vs G)) then (bif decide (0≤S.cmp (S.vs r) (S.vs G)) then (bif S.ok r&&S.ok G&&decide (S.vs G≤S.vs r) then (bif ai IntKind.i64 (d+64) then some (.normal,ar 76 [(0,(.val (.string a))),(6,(.ptr 0 0)),(8,(.sl false 5 1 0 zs.length)),(9,(.val (.string (S.mg (S.vs r - S.vs G))))),(10,(.val (.int .i64 i))),(11,(.val (.int .i64 (d+64)))),(12,(.val (.int .i64 5)))], [(.row (.cells [(.val (.string I)),(.val (.string J)),(.val (.string M)),(.val (.string O)),(.val (.string U)),(.val (.string Z)),(.val (.string G)),(.val (.string ab))]) 176 .live),(.row (.ints .u8 zs) 5 .live)]) else none) else none) else some (.normal,ar 76 [(0,(.val (.string a))),(6,(.ptr 0 0)),(8,(.sl false 5 1 0 zs.length)),(9,(.val (.string r))),(10,(.val (.int .i64 i))),(11,(.val (.int .i64 d))),(12,(.val (.int .i64 5)))], [(.row (.cells [(.val (.string I)),(.val (.string J)),(.val (.string M)),(.val (.string O)),(.val (.string U)),(.val (.string Z)),(.val (.string G)),(.val (.string ab))]) 176 .live),(.row (.ints .u8 zs) 5 .live)])) else none):=by kernel_rfl
theorem Xh (S:Sg) (a:ByteArray) (zs:List Int) (r:ByteArray) (i d:Int) (I J M O U G Z ab:ByteArray):aO Tryz.prog ⟨fQ S,au,aq⟩ 161 [0,6,8,9,10,11,12] (lb 161 bX) (false :: bX) (cu a zs r i d (5) I J M O U G Z ab) (cr a zs r i d (5) I J M O U G Z ab)=
  (bif aG r (S.mg (S.vs r))&&aG G (S.mg (S.vs G)) then (bif decide (0≤S.cmp (S.vs r) (S.vs G)) then (bif S.ok r&&S.ok G&&decide (S.vs G≤S.vs r) then (bif ai IntKind.i64 (d+32) then some (.normal,ar 76 [(0,(.val (.string a))),(6,(.ptr 0 0)),(8,(.sl false 5 1 0 zs.length)),(9,(.val (.string (S.mg (S.vs r - S.vs G))))),(10,(.val (.int .i64 i))),(11,(.val (.int .i64 (d+32)))),(12,(.val (.int .i64 4)))], [(.row (.cells [(.val (.string I)),(.val (.string J)),(.val (.string M)),(.val (.string O)),(.val (.string U)),(.val (.string G)),(.val (.string Z)),(.val (.string ab))]) 176 .live),(.row (.ints .u8 zs) 5 .live)]) else none) else none) else some (.normal,ar 76 [(0,(.val (.string a))),(6,(.ptr 0 0)),(8,(.sl false 5 1 0 zs.length)),(9,(.val (.string r))),(10,(.val (.int .i64 i))),(11,(.val (.int .i64 d))),(12,(.val (.int .i64 4)))], [(.row (.cells [(.val (.string I)),(.val (.string J)),(.val (.string M)),(.val (.string O)),(.val (.string U)),(.val (.string G)),(.val (.string Z)),(.val (.string ab))]) 176 .live),(.row (.ints .u8 zs) 5 .live)])) else none):=by kernel_rfl
theorem Xf (S:Sg) (a:ByteArray) (zs:List Int) (r:ByteArray) (i d:Int) (I J M O G U Z ab:ByteArray):aO Tryz.prog ⟨fQ S,au,aq⟩ 161 [0,6,8,9,10,11,12] (lb 161 bX) (false :: bX) (cu a zs r i d (4) I J M O G U Z ab) (cr a zs r i d (4) I J M O G U Z ab)=
  (bif aG r (S.mg (S.vs r))&&aG G (S.mg (S.vs G)) then (bif decide (0≤S.cmp (S.vs r) (S.vs G)) then (bif S.ok r&&S.ok G&&decide (S.vs G≤S.vs r) then (bif ai IntKind.i64 (d+16) then some (.normal,ar 76 [(0,(.val (.string a))),(6,(.ptr 0 0)),(8,(.sl false 5 1 0 zs.length)),(9,(.val (.string (S.mg (S.vs r - S.vs G))))),(10,(.val (.int .i64 i))),(11,(.val (.int .i64 (d+16)))),(12,(.val (.int .i64 3)))], [(.row (.cells [(.val (.string I)),(.val (.string J)),(.val (.string M)),(.val (.string O)),(.val (.string G)),(.val (.string U)),(.val (.string Z)),(.val (.string ab))]) 176 .live),(.row (.ints .u8 zs) 5 .live)]) else none) else none) else some (.normal,ar 76 [(0,(.val (.string a))),(6,(.ptr 0 0)),(8,(.sl false 5 1 0 zs.length)),(9,(.val (.string r))),(10,(.val (.int .i64 i))),(11,(.val (.int .i64 d))),(12,(.val (.int .i64 3)))], [(.row (.cells [(.val (.string I)),(.val (.string J)),(.val (.string M)),(.val (.string O)),(.val (.string G)),(.val (.string U)),(.val (.string Z)),(.val (.string ab))]) 176 .live),(.row (.ints .u8 zs) 5 .live)])) else none):=by kernel_rfl
theorem Xe (S:Sg) (a:ByteArray) (zs:List Int) (r:ByteArray) (i d:Int) (I J M G O U Z ab:ByteArray):aO Tryz.prog ⟨fQ S,au,aq⟩ 161 [0,6,8,9,10,11,12] (lb 161 bX) (false :: bX) (cu a zs r i d (3) I J M G O U Z ab) (cr a zs r i d (3) I J M G O U Z ab)=
  (bif aG r (S.mg (S.vs r))&&aG G (S.mg (S.vs G)) then (bif decide (0≤S.cmp (S.vs r) (S.vs G)) then (bif S.ok r&&S.ok G&&decide (S.vs G≤S.vs r) then (bif ai IntKind.i64 (d+8) then some (.normal,ar 76 [(0,(.val (.string a))),(6,(.ptr 0 0)),(8,(.sl false 5 1 0 zs.length)),(9,(.val (.string (S.mg (S.vs r - S.vs G))))),(10,(.val (.int .i64 i))),(11,(.val (.int .i64 (d+8)))),(12,(.val (.int .i64 2)))], [(.row (.cells [(.val (.string I)),(.val (.string J)),(.val (.string M)),(.val (.string G)),(.val (.string O)),(.val (.string U)),(.val (.string Z)),(.val (.string ab))]) 176 .live),(.row (.ints .u8 zs) 5 .live)]) else none) else none) else some (.normal,ar 76 [(0,(.val (.string a))),(6,(.ptr 0 0)),(8,(.sl false 5 1 0 zs.length)),(9,(.val (.string r))),(10,(.val (.int .i64 i))),(11,(.val (.int .i64 d))),(12,(.val (.int .i64 2)))], [(.row (.cells [(.val (.string I)),(.val (.string J)),(.val (.string M)),(.val (.string G)),(.val (.string O)),(.val (.string U)),(.val (.string Z)),(.val (.string ab))]) 176 .live),(.row (.ints .u8 zs) 5 .live)])) else none):=by kernel_rfl
theorem Xd (S:Sg) (a:ByteArray) (zs:List Int) (r:ByteArray) (i d:Int) (I J G M O U Z ab:ByteArray):aO Tryz.prog ⟨fQ S,au,aq⟩ 161 [0,6,8,9,10,11,12] (lb 161 bX) (false :: bX) (cu a zs r i d (2) I J G M O U Z ab) (cr a zs r i d (2) I J G M O U Z ab)=
  (bif aG r (S.mg (S.vs r))&&aG G (S.mg (S.vs G)) then (bif decide (0≤S.cmp (S.vs r) (S.vs G)) then (bif S.ok r&&S.ok G&&decide (S.vs G≤S.vs r) then (bif ai IntKind.i64 (d+4) then some (.normal,ar 76 [(0,(.val (.string a))),(6,(.ptr 0 0)),(8,(.sl false 5 1 0 zs.length)),(9,(.val (.string (S.mg (S.vs r - S.vs G))))),(10,(.val (.int .i64 i))),(11,(.val (.int .i64 (d+4)))),(12,(.val (.int .i64 1)))], [(.row (.cells [(.val (.string I)),(.val (.string J)),(.val (.string G)),(.val (.string M)),(.val (.string O)),(.val (.string U)),(.val (.string Z)),(.val (.string ab))]) 176 .live),(.row (.ints .u8 zs) 5 .live)]) else none) else none) else some (.normal,ar 76 [(0,(.val (.string a))),(6,(.ptr 0 0)),(8,(.sl false 5 1 0 zs.length)),(9,(.val (.string r))),(10,(.val (.int .i64 i))),(11,(.val (.int .i64 d))),(12,(.val (.int .i64 1)))], [(.row (.cells [(.val (.string I)),(.val (.string J)),(.val (.string G)),(.val (.string M)),(.val (.string O)),(.val (.string U)),(.val (.string Z)),(.val (.string ab))]) 176 .live),(.row (.ints .u8 zs) 5 .live)])) else none):=by kernel_rfl
theorem Xc (S:Sg) (a:ByteArray) (zs:List Int) (r:ByteArray) (i d:Int) (I G J M O U Z ab:ByteArray):aO Tryz.prog ⟨fQ S,au,aq⟩ 161 [0,6,8,9,10,11,12] (lb 161 bX) (false :: bX) (cu a zs r i d (1) I G J M O U Z ab) (cr a zs r i d (1) I G J M O U Z ab)=
  (bif aG r (S.mg (S.vs r))&&aG G (S.mg (S.vs G)) then (bif decide (0≤S.cmp (S.vs r) (S.vs G)) then (bif S.ok r&&S.ok G&&decide (S.vs G≤S.vs r) then (bif ai IntKind.i64 (d+2) then some (.normal,ar 76 [(0,(.val (.string a))),(6,(.ptr 0 0)),(8,(.sl false 5 1 0 zs.length)),(9,(.val (.string (S.mg (S.vs r - S.vs G))))),(10,(.val (.int .i64 i))),(11,(.val (.int .i64 (d+2)))),(12,(.val (.int .i64 0)))], [(.row (.cells [(.val (.string I)),(.val (.string G)),(.val (.string J)),(.val (.string M)),(.val (.string O)),(.val (.string U)),(.val (.string Z)),(.val (.string ab))]) 176 .live),(.row (.ints .u8 zs) 5 .live)]) else none) else none) else some (.normal,ar 76 [(0,(.val (.string a))),(6,(.ptr 0 0)),(8,(.sl false 5 1 0 zs.length)),(9,(.val (.string r))),(10,(.val (.int .i64 i))),(11,(.val (.int .i64 d))),(12,(.val (.int .i64 0)))], [(.row (.cells [(.val (.string I)),(.val (.string G)),(.val (.string J)),(.val (.string M)),(.val (.string O)),(.val (.string U)),(.val (.string Z)),(.val (.string ab))]) 176 .live),(.row (.ints .u8 zs) 5 .live)])) else none):=by kernel_rfl
theorem Xb (S:Sg) (a:ByteArray) (zs:List Int) (r:ByteArray) (i d:Int) (G I J M O U Z ab:ByteArray):aO Tryz.prog ⟨fQ S,au,aq⟩ 161 [0,6,8,9,10,11,12] (lb 161 bX) (false :: bX) (cu a zs r i d (0) G I J M O U Z ab) (cr a zs r i d (0) G I J M O U Z ab)=
  (bif aG r (S.mg (S.vs r))&&aG G (S.mg (S.vs G)) then (bif decide (0≤S.cmp (S.vs r) (S.vs G)) then (bif S.ok r&&S.ok G&&decide (S.vs G≤S.vs r) then (bif ai IntKind.i64 (d+1) then some (.normal,ar 76 [(0,(.val (.string a))),(6,(.ptr 0 0)),(8,(.sl false 5 1 0 zs.length)),(9,(.val (.string (S.mg (S.vs r - S.vs G))))),(10,(.val (.int .i64 i))),(11,(.val (.int .i64 (d+1)))),(12,(.val (.int .i64 (-1))))], [(.row (.cells [(.val (.string G)),(.val (.string I)),(.val (.string J)),(.val (.string M)),(.val (.string O)),(.val (.string U)),(.val (.string Z)),(.val (.string ab))]) 176 .live),(.row (.ints .u8 zs) 5 .live)]) else none) else none) else some (.normal,ar 76 [(0,(.val (.string a))),(6,(.ptr 0 0)),(8,(.sl false 5 1 0 zs.length)),(9,(.val (.string r))),(10,(.val (.int .i64 i))),(11,(.val (.int .i64 d))),(12,(.val (.int .i64 (-1))))], [(.row (.cells [(.val (.string G)),(.val (.string I)),(.val (.string J)),(.val (.string M)),(.val (.string O)),(.val (.string U)),(.val (.string Z)),(.val (.string ab))]) 176 .live),(.row (.ints .u8 zs) 5 .live)])) else none):=by kernel_rfl
theorem Xk (S:Sg) (a:ByteArray) (zs:List Int) (r:ByteArray) (i d:Int) (G I J M O U Z ab:ByteArray):aO Tryz.prog ⟨fQ S,au,aq⟩ 161 [0,6,8,9,10,11,12] (lb 161 bX) (false :: bX) (cu a zs r i d (-1) G I J M O U Z ab) (cr a zs r i d (-1) G I J M O U Z ab)=
  (some ((.exit 4),ar 76 [(0,(.val (.string a))),(6,(.ptr 0 0)),(8,(.sl false 5 1 0 zs.length)),(9,(.val (.string r))),(10,(.val (.int .i64 i))),(11,(.val (.int .i64 d))),(12,(.val (.int .i64 (-1))))], [(.row (.cells [(.val (.string G)),(.val (.string I)),(.val (.string J)),(.val (.string M)),(.val (.string O)),(.val (.string U)),(.val (.string Z)),(.val (.string ab))]) 176 .live),(.row (.ints .u8 zs) 5 .live)])):=by kernel_rfl
theorem oB (n:Nat):aG (aA n) (aa.mg n)=true:=lG _
theorem eY (n:Nat):aa.vs (aA n)=n:=jC n
theorem sE (n:Nat):(aA n).size=bs n:=lF n
theorem ei {n:Nat} (h:bs n≤8796093022208):aa.ok (aA n)=true:=decide_eq_true (by rw [sE];exact h)
theorem fq (a b:Nat):0≤aa.cmp a b↔b≤a:=by
 show 0≤cz a b↔_
 unfold cz
 split <;> (try split) <;> omega
def bY (G R:Nat):Nat:=if G≤R then R - G else R
def b9 (m G R d:Nat):Nat:=if G≤R then d+m else d
theorem Xs (a:ByteArray) (zs:List Int) (i:Int) (J M O U Z ab aE I:ByteArray) (R G d:Nat) (a7:I=aA G) (a1:bs G≤8796093022208) (a6:bs R≤8796093022208) (bx:d≤1000):
  V.Ends Tryz.prog false 0 0 (lb 161 bX) (cu a zs (aA R) i (d:Int) 7 J M O U Z ab aE I) (cr a zs (aA R) i (d:Int) 7 J M O U Z ab aE I) .normal
   (cu a zs (aA (bY G R)) i ((b9 128 G R d:Nat):Int) (7 - 1) J M O U Z ab aE I) (cr a zs (aA (bY G R)) i ((b9 128 G R d:Nat):Int) (7 - 1) J M O U Z ab aE I):=by
 subst a7
 refine nJ ?_
 rw [Xj]
 simp only [oB,eY]
 rw [ei a6,ei a1]
 unfold bY b9
 by_cases h:G≤R
 ·rw [if_pos h,if_pos h,dT ((fq R G).2 h),dT h,aM (z:=(d:Int)+128) (by omega),show (d:Int)+128=((d+128:Nat):Int) by omega]
  rfl
 ·rw [if_neg h,if_neg h,dF (fun h'=>h ((fq R G).1 h'))]
  rfl
theorem Xr (a:ByteArray) (zs:List Int) (i:Int) (J M O U Z ab I aE:ByteArray) (R G d:Nat) (a7:I=aA G) (a1:bs G≤8796093022208) (a6:bs R≤8796093022208) (bx:d≤1000):
  V.Ends Tryz.prog false 0 0 (lb 161 bX) (cu a zs (aA R) i (d:Int) 6 J M O U Z ab I aE) (cr a zs (aA R) i (d:Int) 6 J M O U Z ab I aE) .normal
   (cu a zs (aA (bY G R)) i ((b9 64 G R d:Nat):Int) (6 - 1) J M O U Z ab I aE) (cr a zs (aA (bY G R)) i ((b9 64 G R d:Nat):Int) (6 - 1) J M O U Z ab I aE):=by
 subst a7
 refine nJ ?_
 rw [Xi]
 simp only [oB,eY]
 rw [ei a6,ei a1]
 unfold bY b9
 by_cases h:G≤R
 ·rw [if_pos h,if_pos h,dT ((fq R G).2 h),dT h,aM (z:=(d:Int)+64) (by omega),show (d:Int)+64=((d+64:Nat):Int) by omega]
  rfl
 ·rw [if_neg h,if_neg h,dF (fun h'=>h ((fq R G).1 h'))]
  rfl
theorem Xq (a:ByteArray) (zs:List Int) (i:Int) (J M O U Z I ab aE:ByteArray) (R G d:Nat) (a7:I=aA G) (a1:bs G≤8796093022208) (a6:bs R≤8796093022208) (bx:d≤1000):
  V.Ends Tryz.prog false 0 0 (lb 161 bX) (cu a zs (aA R) i (d:Int) 5 J M O U Z I ab aE) (cr a zs (aA R) i (d:Int) 5 J M O U Z I ab aE) .normal
   (cu a zs (aA (bY G R)) i ((b9 32 G R d:Nat):Int) (5 - 1) J M O U Z I ab aE) (cr a zs (aA (bY G R)) i ((b9 32 G R d:Nat):Int) (5 - 1) J M O U Z I ab aE):=by
 subst a7
 refine nJ ?_
 rw [Xh]
 simp only [oB,eY]
 rw [ei a6,ei a1]
 unfold bY b9
 by_cases h:G≤R
 ·rw [if_pos h,if_pos h,dT ((fq R G).2 h),dT h,aM (z:=(d:Int)+32) (by omega),show (d:Int)+32=((d+32:Nat):Int) by omega]
  rfl
 ·rw [if_neg h,if_neg h,dF (fun h'=>h ((fq R G).1 h'))]
  rfl
theorem Xp (a:ByteArray) (zs:List Int) (i:Int) (J M O U I Z ab aE:ByteArray) (R G d:Nat) (a7:I=aA G) (a1:bs G≤8796093022208) (a6:bs R≤8796093022208) (bx:d≤1000):
  V.Ends Tryz.prog false 0 0 (lb 161 bX) (cu a zs (aA R) i (d:Int) 4 J M O U I Z ab aE) (cr a zs (aA R) i (d:Int) 4 J M O U I Z ab aE) .normal
   (cu a zs (aA (bY G R)) i ((b9 16 G R d:Nat):Int) (4 - 1) J M O U I Z ab aE) (cr a zs (aA (bY G R)) i ((b9 16 G R d:Nat):Int) (4 - 1) J M O U I Z ab aE):=by
 subst a7
 refine nJ ?_
 rw [Xf]
 simp only [oB,eY]
 rw [ei a6,ei a1]
 unfold bY b9
 by_cases h:G≤R
 ·rw [if_pos h,if_pos h,dT ((fq R G).2 h),dT h,aM (z:=(d:Int)+16) (by omega),show (d:Int)+16=((d+16:Nat):Int) by omega]
  rfl
 ·rw [if_neg h,if_neg h,dF (fun h'=>h ((fq R G).1 h'))]
  rfl
theorem Xo (a:ByteArray) (zs:List Int) (i:Int) (J M O I U Z ab aE:ByteArray) (R G d:Nat) (a7:I=aA G) (a1:bs G≤8796093022208) (a6:bs R≤8796093022208) (bx:d≤1000):
  V.Ends Tryz.prog false 0 0 (lb 161 bX) (cu a zs (aA R) i (d:Int) 3 J M O I U Z ab aE) (cr a zs (aA R) i (d:Int) 3 J M O I U Z ab aE) .normal
   (cu a zs (aA (bY G R)) i ((b9 8 G R d:Nat):Int) (3 - 1) J M O I U Z ab aE) (cr a zs (aA (bY G R)) i ((b9 8 G R d:Nat):Int) (3 - 1) J M O I U Z ab aE):=by
 subst a7
 refine nJ ?_
 rw [Xe]
 simp only [oB,eY]
 rw [ei a6,ei a1]
 unfold bY b9
 by_cases h:G≤R
 ·rw [if_pos h,if_pos h,dT ((fq R G).2 h),dT h,aM (z:=(d:Int)+8) (by omega),show (d:Int)+8=((d+8:Nat):Int) by omega]
  rfl
 ·rw [if_neg h,if_neg h,dF (fun h'=>h ((fq R G).1 h'))]
  rfl
theorem Xn (a:ByteArray) (zs:List Int) (i:Int) (J M I O U Z ab aE:ByteArray) (R G d:Nat) (a7:I=aA G) (a1:bs G≤8796093022208) (a6:bs R≤8796093022208) (bx:d≤1000):
  V.Ends Tryz.prog false 0 0 (lb 161 bX) (cu a zs (aA R) i (d:Int) 2 J M I O U Z ab aE) (cr a zs (aA R) i (d:Int) 2 J M I O U Z ab aE) .normal
   (cu a zs (aA (bY G R)) i ((b9 4 G R d:Nat):Int) (2 - 1) J M I O U Z ab aE) (cr a zs (aA (bY G R)) i ((b9 4 G R d:Nat):Int) (2 - 1) J M I O U Z ab aE):=by
 subst a7
 refine nJ ?_
 rw [Xd]
 simp only [oB,eY]
 rw [ei a6,ei a1]
 unfold bY b9
 by_cases h:G≤R
 ·rw [if_pos h,if_pos h,dT ((fq R G).2 h),dT h,aM (z:=(d:Int)+4) (by omega),show (d:Int)+4=((d+4:Nat):Int) by omega]
  rfl
 ·rw [if_neg h,if_neg h,dF (fun h'=>h ((fq R G).1 h'))]
  rfl
theorem Xm (a:ByteArray) (zs:List Int) (i:Int) (J I M O U Z ab aE:ByteArray) (R G d:Nat) (a7:I=aA G) (a1:bs G≤8796093022208) (a6:bs R≤8796093022208) (bx:d≤1000):
  V.Ends Tryz.prog false 0 0 (lb 161 bX) (cu a zs (aA R) i (d:Int) 1 J I M O U Z ab aE) (cr a zs (aA R) i (d:Int) 1 J I M O U Z ab aE) .normal
   (cu a zs (aA (bY G R)) i ((b9 2 G R d:Nat):Int) (1 - 1) J I M O U Z ab aE) (cr a zs (aA (bY G R)) i ((b9 2 G R d:Nat):Int) (1 - 1) J I M O U Z ab aE):=by
 subst a7
 refine nJ ?_
 rw [Xc]
 simp only [oB,eY]
 rw [ei a6,ei a1]
 unfold bY b9
 by_cases h:G≤R
 ·rw [if_pos h,if_pos h,dT ((fq R G).2 h),dT h,aM (z:=(d:Int)+2) (by omega),show (d:Int)+2=((d+2:Nat):Int) by omega]
  rfl
 ·rw [if_neg h,if_neg h,dF (fun h'=>h ((fq R G).1 h'))]
  rfl
theorem Xl (a:ByteArray) (zs:List Int) (i:Int) (I J M O U Z ab aE:ByteArray) (R G d:Nat) (a7:I=aA G) (a1:bs G≤8796093022208) (a6:bs R≤8796093022208) (bx:d≤1000):
  V.Ends Tryz.prog false 0 0 (lb 161 bX) (cu a zs (aA R) i (d:Int) 0 I J M O U Z ab aE) (cr a zs (aA R) i (d:Int) 0 I J M O U Z ab aE) .normal
   (cu a zs (aA (bY G R)) i ((b9 1 G R d:Nat):Int) (0 - 1) I J M O U Z ab aE) (cr a zs (aA (bY G R)) i ((b9 1 G R d:Nat):Int) (0 - 1) I J M O U Z ab aE):=by
 subst a7
 refine nJ ?_
 rw [Xb]
 simp only [oB,eY]
 rw [ei a6,ei a1]
 unfold bY b9
 by_cases h:G≤R
 ·rw [if_pos h,if_pos h,dT ((fq R G).2 h),dT h,aM (z:=(d:Int)+1) (by omega),show (d:Int)+1=((d+1:Nat):Int) by omega]
  rfl
 ·rw [if_neg h,if_neg h,dF (fun h'=>h ((fq R G).1 h'))]
  rfl
theorem oi (m B R d I:Nat) (h:I=d*B+R) (J:R < 2*(m*B)):I=b9 m (m*B) R d*B+bY (m*B) R∧bY (m*B) R < m*B:=by
 unfold b9 bY
 by_cases G:m*B≤R
 ·rw [if_pos G,if_pos G,Nat.add_mul];omega
 ·rw [if_neg G,if_neg G];omega
theorem oh (m G R d k:Nat) (h:d≤k):b9 m G R d≤k+m:=by unfold b9;split <;> omega
theorem Xa (G R:Nat):bY G R≤R:=by unfold bY;split <;> omega
def u5 (a:ByteArray) (zs:List Int) (r:ByteArray) (i d k:Int) (G I J M O U Z ab:ByteArray):Prop:=∃ R B:Nat,r=aA R∧d=0∧k=7∧R < 256*B∧bs (256*B)≤8796093022208∧
 G=aA (1*B)∧I=aA (2*B)∧J=aA (4*B)∧M=aA (8*B)∧O=aA (16*B)∧U=aA (32*B)∧Z=aA (64*B)∧ab=aA (128*B)
def zt (a:ByteArray) (zs:List Int) (r:ByteArray) (i d k:Int) (G I J M O U Z ab:ByteArray) (ρ:ByteArray×Int×Int):Prop:=ρ.1=aA (vS r % vS G)∧ρ.2.1=((vS r / vS G:Nat):Int)
theorem aat (a:ByteArray) (zs:List Int) (r:ByteArray) (i d k:Int) (I J M O U Z ab aE:ByteArray) (h:u5 a zs r i d k I J M O U Z ab aE):∃ ρ:ByteArray×Int×Int,
  av Tryz.prog (lb 161 bX) (cu a zs r i d k I J M O U Z ab aE) (cr a zs r i d k I J M O U Z ab aE) (.exit 4) (cu a zs ρ.1 i ρ.2.1 ρ.2.2 I J M O U Z ab aE) (cr a zs ρ.1 i ρ.2.1 ρ.2.2 I J M O U Z ab aE)∧zt a zs r i d k I J M O U Z ab aE ρ:=by
 obtain ⟨R,B,rfl,rfl,rfl,hA,e2,c0,e3,e4,e5,e6,e7,fa,eR⟩:=h
 obtain ⟨eN,hG⟩:=oi 128 B R 0 R (by omega) (by omega)
 have eo:=oh 128 (128*B) R 0 0 (Nat.le_refl _)
 have hy:=Xa (128*B) R
 generalize hs:bY (128*B) R=b2 at*
 generalize hg:b9 128 (128*B) R 0=ch at*
 obtain ⟨eL,hF⟩:=oi 64 B b2 ch R eN (by omega)
 have en:=oh 64 (64*B) b2 ch _ eo
 generalize hr:bY (64*B) b2=b1 at*
 generalize hf:b9 64 (64*B) b2 ch=b7 at*
 obtain ⟨ez,hE⟩:=oi 32 B b1 b7 R eL (by omega)
 have eh:=oh 32 (32*B) b1 b7 _ en
 generalize hq:bY (32*B) b1=b0 at*
 generalize hd:b9 32 (32*B) b1 b7=b6 at*
 obtain ⟨ev,hD⟩:=oi 16 B b0 b6 R ez (by omega)
 have eg:=oh 16 (16*B) b0 b6 _ eh
 generalize ho:bY (16*B) b0=bD at*
 generalize hc:b9 16 (16*B) b0 b6=b5 at*
 obtain ⟨eu,hB⟩:=oi 8 B bD b5 R ev (by omega)
 have ed:=oh 8 (8*B) bD b5 _ eg
 generalize hn:bY (8*B) bD=bx at*
 generalize gn:b9 8 (8*B) bD b5=b4 at*
 obtain ⟨et,l2⟩:=oi 4 B bx b4 R eu (by omega)
 have ec:=oh 4 (4*B) bx b4 _ ed
 generalize hl:bY (4*B) bx=a7 at*
 generalize gf:b9 4 (4*B) bx b4=b3 at*
 obtain ⟨e1,l1⟩:=oi 2 B a7 b3 R et (by omega)
 have d1:=oh 2 (2*B) a7 b3 _ ec
 generalize hj:bY (2*B) a7=a6 at*
 generalize fv:b9 2 (2*B) a7 b3=D1 at*
 obtain ⟨e0,l0⟩:=oi 1 B a6 D1 R e1 (by omega)
 have hz:=oh 1 (1*B) a6 D1 _ d1
 generalize hh:bY (1*B) a6=ct at*
 generalize fs:b9 1 (1*B) a6 D1=a1 at*
 have G:∀ n:Nat,n≤256*B→bs n≤8796093022208:=fun n ht=>Nat.le_trans (dI ht) e2
 refine ⟨(aA ct,(a1:Int), -1), ?_, ?_⟩
 ·have eb:=Xs a zs i I J M O U Z ab aE R (128*B) 0 eR (G _ (by omega)) (G _ (by omega)) (by omega)
  have ea:=Xr a zs i I J M O U Z ab aE b2 (64*B) ch fa (G _ (by omega)) (G _ (by omega)) (by omega)
  have dy:=Xq a zs i I J M O U Z ab aE b1 (32*B) b7 e7 (G _ (by omega)) (G _ (by omega)) (by omega)
  have dx:=Xp a zs i I J M O U Z ab aE b0 (16*B) b6 e6 (G _ (by omega)) (G _ (by omega)) (by omega)
  have c7:=Xo a zs i I J M O U Z ab aE bD (8*B) b5 e5 (G _ (by omega)) (G _ (by omega)) (by omega)
  have c6:=Xn a zs i I J M O U Z ab aE bx (4*B) b4 e4 (G _ (by omega)) (G _ (by omega)) (by omega)
  have c5:=Xm a zs i I J M O U Z ab aE a7 (2*B) b3 e3 (G _ (by omega)) (G _ (by omega)) (by omega)
  have c4:=Xl a zs i I J M O U Z ab aE a6 (1*B) D1 c0 (G _ (by omega)) (G _ (by omega)) (by omega)
  rw [hs,hg] at eb
  rw [hr,hf] at ea
  rw [hq,hd] at dy
  rw [ho,hc] at dx
  rw [hn,gn] at c7
  rw [hl,gf] at c6
  rw [hj,fv] at c5
  rw [hh,fs] at c4
  refine .more eb (.more ea (.more dy (.more dx (.more c7 (.more c6 (.more c5 (.more c4 (.last (nJ ?_) (by intro h;cases h)))))))))
  exact Xk aa a zs (aA ct) i (a1:Int) I J M O U Z ab aE
 ·have hv:vS (aA R)=R:=eY R
  have hx:vS I=B:=by rw [c0];exact (eY (1*B)).trans (Nat.one_mul B)
  unfold zt
  rw [hv,hx]
  have ep:ct+B*a1=R:=by rw [Nat.mul_comm B a1];omega
  have fc:0 < B:=by omega
  have c3:=(Nat.div_mod_unique (a:=R) (b:=B) (c:=ct) (d:=a1) fc).2 ⟨ep,by omega⟩
  rw [c3.1,c3.2]
  exact ⟨rfl,rfl⟩
def G5 (a6:ByteArray→List Int→ByteArray→Int→Int→Int→ByteArray→ByteArray→ByteArray→ByteArray→ByteArray→ByteArray→ByteArray→ByteArray→Bool) (aE:ByteArray→List Int→ByteArray→Int→Int→Int→ByteArray→ByteArray→ByteArray→ByteArray→ByteArray→ByteArray→ByteArray→ByteArray→ByteArray×Int×Int) (T:List AV) (H:Hp):Option (Bool×Ex×List AV×Hp):=
 match al T 0,al T 6,al T 8,al T 9,al T 10,al T 11,al T 12,H with
 | .val (.string a), .ptr 0 0, .sl false 5 1 0 a1, .val (.string r), .val (.int .i64 i), .val (.int .i64 d), .val (.int .i64 k), [.row (.cells [.val (.string G), .val (.string I), .val (.string J), .val (.string M), .val (.string O), .val (.string U), .val (.string Z), .val (.string ab)]) 176 .live, .row (.ints .u8 zs) 5 .live]=>bif T.length==76 then some (decide (a1=zs.length)&&a6 a zs r i d k G I J M O U Z ab, .exit 4,cu a zs ((aE a zs r i d k G I J M O U Z ab).1) i ((aE a zs r i d k G I J M O U Z ab).2.1) ((aE a zs r i d k G I J M O U Z ab).2.2) G I J M O U Z ab,cr a zs ((aE a zs r i d k G I J M O U Z ab).1) i ((aE a zs r i d k G I J M O U Z ab).2.1) ((aE a zs r i d k G I J M O U Z ab).2.2) G I J M O U Z ab) else none
 | _,_,_,_,_,_,_,_=>none
abbrev Jx:Type:=ByteArray→List Int→ByteArray→Int→Int→Int→ByteArray→ByteArray→ByteArray→ByteArray→ByteArray→ByteArray→ByteArray→ByteArray→Bool
abbrev IY:Type:=ByteArray→List Int→ByteArray→Int→Int→Int→ByteArray→ByteArray→ByteArray→ByteArray→ByteArray→ByteArray→ByteArray→ByteArray→ByteArray×Int×Int
def B5 (G:Jx) (I:IY) (L:aC):aC:=bp 0 161 bX [0,6,8,9,10,11,12] (G5 G I) L
def lz (a:ByteArray) (zs:List Int) (r:ByteArray) (i d k:Int) (G I J M O U Z ab:ByteArray):ByteArray×Int×Int:=Classical.epsilon fun ρ=>av Tryz.prog (lb 161 bX) (cu a zs r i d k G I J M O U Z ab) (cr a zs r i d k G I J M O U Z ab) (.exit 4) (cu a zs (ρ.1) i (ρ.2.1) (ρ.2.2) G I J M O U Z ab) (cr a zs (ρ.1) i (ρ.2.1) (ρ.2.2) G I J M O U Z ab)∧zt a zs r i d k G I J M O U Z ab ρ
theorem N4 (a:ByteArray) (zs:List Int) (r:ByteArray) (i d k:Int) (G I J M O U Z ab:ByteArray) (h:u5 a zs r i d k G I J M O U Z ab):av Tryz.prog (lb 161 bX) (cu a zs r i d k G I J M O U Z ab) (cr a zs r i d k G I J M O U Z ab) (.exit 4) (cu a zs ((lz a zs r i d k G I J M O U Z ab).1) i ((lz a zs r i d k G I J M O U Z ab).2.1) ((lz a zs r i d k G I J M O U Z ab).2.2) G I J M O U Z ab) (cr a zs ((lz a zs r i d k G I J M O U Z ab).1) i ((lz a zs r i d k G I J M O U Z ab).2.1) ((lz a zs r i d k G I J M O U Z ab).2.2) G I J M O U Z ab)∧zt a zs r i d k G I J M O U Z ab (lz a zs r i d k G I J M O U Z ab):=Classical.epsilon_spec (aat a zs r i d k G I J M O U Z ab h)
def tJ (a:ByteArray) (zs:List Int) (r:ByteArray) (i d k:Int) (G I J M O U Z ab:ByteArray):Bool:= @decide (u5 a zs r i d k G I J M O U Z ab) (Classical.propDecidable _)
theorem V2 (a:ByteArray) (zs:List Int) (r:ByteArray) (i d k:Int) (G I J M O U Z ab:ByteArray) (h:u5 a zs r i d k G I J M O U Z ab):tJ a zs r i d k G I J M O U Z ab=true:= @decide_eq_true _ (Classical.propDecidable _) h
theorem af4 (T:List AV) (H:Hp) (e:Ex) (J:List AV) (I:Hp) (h:G5 tJ lz T H=some (true,e,J,I)):V.Ends Tryz.prog false 0 0 (.loop (lb 161 bX)) T H e J I:=by
 unfold G5 at h
 split at h
 ·rename_i a ct r i d k b1 b2 b3 b4 b5 b6 b7 ch zs U a1 a6 a7 Z ab aE
  rw [Bool.cond_eq_ite] at h
  split at h
  ·rename_i M
   rw [beq_iff_eq] at M
   simp only [Option.some.injEq,Prod.mk.injEq,Bool.and_eq_true,decide_eq_true_eq] at h
   obtain ⟨⟨k1,bD⟩,rfl,rfl,rfl⟩:=h
   have b0:= @of_decide_eq_true _ (Classical.propDecidable _) bD
   refine Ends.pre (N4 a zs r i d k b1 b2 b3 b4 b5 b6 b7 ch b0).1.ends (fun α B w D c0 bx=>bq M (fun p O y G=> ?_) bx)
   simp only [List.mem_cons,List.not_mem_nil,or_false] at O
   rcases O with rfl | rfl | rfl | rfl | rfl | rfl | rfl
   ·rw [U] at G;exact G
   ·rw [a1] at G;exact G
   ·rw [a6] at G;rw [← k1];exact G
   ·rw [a7] at G;exact G
   ·rw [Z] at G;exact G
   ·rw [ab] at G;exact G
   ·rw [aE] at G;exact G
  ·cases h
 ·cases h
theorem RS {L:aC} (h:aB Tryz.prog L):aB Tryz.prog (B5 tJ lz L):=h.bz Tm af4
end
end Go.Proofs.YtamcpiicmfielaaGreat.L
namespace Go.Proofs.YtamcpiicmfielaaGreat.L
open Go Go.V Go.RowKit Go.Proofs.YtamcpiicmfielaaGreat.Sp Go.Proofs.YtamcpiicmfielaaGreat.F Go.Proofs.YtamcpiicmfielaaGreatW.PrintWords
open Go.Proofs (Tryz.prog)
noncomputable section
abbrev ga:List Bool:= [false,true,false,true,true,true,true,true,true]
def jk (a:ByteArray) (zs:List Int) (r:ByteArray) (i:Int) (G I J M O U Z ab:ByteArray):List AV:=ar 76 [(0, .val (.string a)),(6, .ptr 0 0),(8, .sl false 5 1 0 zs.length),(9, .val (.string r)),(10, .val (.int .i64 i))]
def iM (a:ByteArray) (zs:List Int) (r:ByteArray) (i:Int) (G I J M O U Z ab:ByteArray):Hp:= [.row (.cells [.val (.string G), .val (.string I), .val (.string J), .val (.string M), .val (.string O), .val (.string U), .val (.string Z), .val (.string ab)]) 176 .live, .row (.ints .u8 zs) 5 .live]
theorem Tn:aH Tryz.prog 161 ga=some (.loop (lb 161 ga)):=by kernel_rfl
theorem U8:aH Tryz.prog 161 (false :: ga)=some (lb 161 ga):=by kernel_rfl
theorem O1 (S:Sg) (a6:Jx) (a1:IY) (a:ByteArray) (zs:List Int) (r:ByteArray) (i:Int) (G I J M O U Z ab:ByteArray):letI aE:=(S.mg (S.vs (sL r (eT a i.toNat (i+1).toNat))));
  (aO Tryz.prog ⟨fQ S,au,B5 a6 a1 aq⟩ 161 [0,6,8,9,10] (lb 161 ga) (false :: ga) (jk a zs r i G I J M O U Z ab) (iM a zs r i G I J M O U Z ab)=(bif decide (i < (↑a.size:Int)) then (bif ai IntKind.i64 (i+1) then (bif decide (0≤i)&&decide (i≤i+1)&&decide (i+1≤(↑a.size:Int)) then (bif decide (r.size+(eT a i.toNat (i+1).toNat).size≤9223372036854775807) then (bif decide (zs.length=zs.length)&&a6 a zs aE i (0:Int) (7:Int) G I J M O U Z ab then (bif decide (0≤i)&&decide (i < (↑zs.length:Int)) then (bif decide (0+i.toNat*1 < zs.length) then (bif ai IntKind.i64 (i+1) then some (.normal,ar 76 [(0,(.val (.string a))),(6,(.ptr 0 0)),(8,(.sl false 5 1 0 zs.length)),(9,(.val (.string ((a1 a zs aE i (0:Int) (7:Int) G I J M O U Z ab).fst)))),(10,(.val (.int .i64 (i+1))))], [(.row (.cells [(.val (.string G)),(.val (.string I)),(.val (.string J)),(.val (.string M)),(.val (.string O)),(.val (.string U)),(.val (.string Z)),(.val (.string ab))]) 176 .live),(.row (.ints .u8 (zs.set (0+i.toNat*1) (IntKind.u8.wrap (a1 a zs aE i (0:Int) (7:Int) G I J M O U Z ab).snd.fst))) 5 .live)]) else none) else none) else none) else none) else none) else none) else none) else some ((.exit 2),ar 76 [(0,(.val (.string a))),(6,(.ptr 0 0)),(8,(.sl false 5 1 0 zs.length)),(9,(.val (.string r))),(10,(.val (.int .i64 i)))], [(.row (.cells [(.val (.string G)),(.val (.string I)),(.val (.string J)),(.val (.string M)),(.val (.string O)),(.val (.string U)),(.val (.string Z)),(.val (.string ab))]) 176 .live),(.row (.ints .u8 zs) 5 .live)]))):=by kernel_rfl
theorem P2 {a:ByteArray} {zs:List Int} {r:ByteArray} {i:Int} {G I J M O U Z ab:ByteArray} {e:Ex} {T:List AV} {H:Hp} (h:aO Tryz.prog ⟨fQ aa,au,B5 tJ lz aq⟩ 161 [0,6,8,9,10] (lb 161 ga) (false :: ga) (jk a zs r i G I J M O U Z ab) (iM a zs r i G I J M O U Z ab)=some (e,T,H)):V.Ends Tryz.prog false 0 0 (lb 161 ga) (jk a zs r i G I J M O U Z ab) (iM a zs r i G I J M O U Z ab) e T H:=
 bF AS (RS aB.none).ok mixed U8 h
def w8 (zs:List Int):List UInt8:=zs.map fun z=>UInt8.ofNat z.toNat
def Km (B:Nat) (G I J M O U Z ab:ByteArray):Prop:=G=aA (1*B)∧I=aA (2*B)∧J=aA (4*B)∧M=aA (8*B)∧O=aA (16*B)∧U=aA (32*B)∧Z=aA (64*B)∧ab=aA (128*B)
theorem ahj (R:Nat) (a:ByteArray) (i:Nat) (h:i < a.size):vS (sL (aA R) (eT a i (i+1)))=R*256+(aR a i).toNat∧(eT a i (i+1)).size=1:=by
 have G:i < a.data.toList.length:=by rw [← mw];exact h
 have e:(eT a i (i+1)).data.toList= [a.data.toList[i]]:=by
  show ((a.data.toList.drop i).take (i+1 - i))=_
  rw [List.drop_eq_getElem_cons G,show i+1 - i=1 by omega]
  rfl
 constructor
 ·show vB ((aA R).data.toList ++ (eT a i (i+1)).data.toList)=_
  rw [e,wP]
  have I:vB (aA R).data.toList=R:=jC R
  rw [I]
  unfold aR
  rw [List.getD_eq_getElem?_getD,List.getElem?_eq_getElem G,Option.getD_some]
  omega
 ·rw [mw,e];rfl
theorem ahr (zs:List Int) (q:Nat) (G:q < 256):vB (w8 (zs ++ [(q:Int)]))=vB (w8 zs)*256+q:=by
 unfold w8
 rw [List.map_append,List.map_cons,List.map_nil,wP,Int.toNat_natCast,UInt8.toNat_ofNat']
 omega
theorem take_set (zs:List Int) (i:Nat) (v:Int) (h:i < zs.length):(zs.set i v).take (i+1)=zs.take i ++ [v]:=by
 rw [List.take_succ_eq_append_getElem (by rw [List.length_set];exact h),List.getElem_set_self,List.take_set_of_le (Nat.le_refl i)]
def u6 (a:ByteArray) (zs:List Int) (r:ByteArray) (i:Int) (G I J M O U Z ab:ByteArray):Prop:=∃ B:Nat,0 < B∧bs (256*B)≤8796093022208∧Km B G I J M O U Z ab∧i=0∧r=aA 0∧zs.length=a.size∧a.size≤8796093022208
def zu (a:ByteArray) (zs:List Int) (r:ByteArray) (i:Int) (G I J M O U Z ab:ByteArray) (ρ:List Int×ByteArray×Int):Prop:=ρ.1.length=a.size∧vB (w8 ρ.1)=vS a / vS G∧ρ.2.1=aA (vS a % vS G)
theorem W4 {A B R c q:Nat} (G:0 < B) (J:R=A % B) (U:q=A / B) (ab:c < 256):(A*256+c) / B=q*256+(R*256+c) / B∧(A*256+c) % B=(R*256+c) % B∧(R*256+c) / B < 256∧R*256+c < 256*B:=by
 have M:A=B*q+R:=by rw [U,J];exact (Nat.div_add_mod A B).symm
 have Z:R < B:=by rw [J];exact Nat.mod_lt _ G
 have O:A*256+c=(R*256+c)+B*(q*256):=by rw [M,Nat.add_mul,Nat.mul_assoc];omega
 have I:R*256+c < 256*B:=by omega
 rw [O,Nat.add_mul_div_left _ _ G,Nat.add_mul_mod_self_left]
 exact ⟨by omega,rfl,(Nat.div_lt_iff_lt_mul G).2 I,I⟩
theorem Xw (a G J M O U Z ab aE:ByteArray) (B:Nat) (b0:0 < B) (hb:bs (256*B)≤8796093022208) (eb:Km B G J M O U Z ab aE) (ha:a.size≤8796093022208) (k:Nat):∀ (i R:Nat) (zs:List Int),i+k=a.size→zs.length=a.size→R=vB (a.data.toList.take i) % B→vB (w8 (zs.take i))=vB (a.data.toList.take i) / B→
  ∃ ρ:List Int×ByteArray×Int,av Tryz.prog (lb 161 ga) (jk a zs (aA R) i G J M O U Z ab aE) (iM a zs (aA R) i G J M O U Z ab aE) (.exit 2) (jk a ρ.1 ρ.2.1 ρ.2.2 G J M O U Z ab aE) (iM a ρ.1 ρ.2.1 ρ.2.2 G J M O U Z ab aE)∧ρ.1.length=a.size∧vB (w8 ρ.1)=vS a / B∧ρ.2.1=aA (vS a % B):=by
 induction k with
 | zero=>
  intro i R zs hi a7 a1 I
  have dy:i=a.size:=by omega
  subst dy
  have e:a.data.toList.take a.size=a.data.toList:=List.take_of_length_le (by rw [← mw];exact Nat.le_refl _)
  rw [e] at a1 I
  rw [List.take_of_length_le (by omega)] at I
  refine ⟨(zs,aA R,(a.size:Int)), .last (P2 ?_) (by intro h;cases h),a7,I,by rw [a1];rfl⟩
  rw [O1,dF (show ¬ ((a.size:Int) < a.size) by omega)]
  rfl
 | succ k ec=>
  intro i R zs hi a7 a1 I
  have b1:i < a.size:=by omega
  obtain ⟨a6,b4⟩:=ahj R a i b1
  have c7:=lQ a i
  obtain ⟨c,dx⟩:∃ c:Nat,aR a i=c:= ⟨(aR a i).toNat,by omega⟩
  have ea:=qP a i b1
  rw [dx] at a6 c7 ea
  rw [Int.toNat_natCast] at a6
  obtain ⟨d1,b5,bx,b6⟩:=W4 (c:=c) b0 a1 I (by omega)
  have bD:vB (a.data.toList.take (i+1))=vB (a.data.toList.take i)*256+c:=by omega
  rw [I] at d1
  obtain ⟨ρ,k1,ed⟩:=ec (i+1) ((R*256+c) % B) (zs.set i (((R*256+c) / B:Nat):Int)) (by omega) (by rw [List.length_set];exact a7) (by rw [bD,b5]) (by rw [take_set _ _ _ (by omega),ahr _ _ bx,bD,d1,I])
  refine ⟨ρ, .more (P2 ?_) k1,ed⟩
  obtain ⟨g0,ch,ct,c0,c3,c4,c5,c6⟩:=eb
  have b2:u5 a zs (aA (R*256+c)) (i:Int) 0 7 G J M O U Z ab aE:= ⟨R*256+c,B,rfl,rfl,rfl,b6,hb,g0,ch,ct,c0,c3,c4,c5,c6⟩
  obtain ⟨_,p1,p2⟩:=N4 _ _ _ _ _ _ _ _ _ _ _ _ _ _ b2
  have eg:vS G=B:=by rw [g0];exact (eY (1*B)).trans (Nat.one_mul B)
  have eh:vS (aA (R*256+c))=R*256+c:=eY _
  rw [eg,eh] at p1 p2
  have b3:=O1 aa tJ lz a zs (aA R) i G J M O U Z ab aE
  have e1:((i:Int)+1).toNat=i+1:=by omega
  have b7:aa.mg (aa.vs (sL (aA R) (eT a i (i+1))))=aA (R*256+c):=by
   have:aa.vs (sL (aA R) (eT a i (i+1)))=R*256+c:=a6
   rw [this];rfl
  have en:R < B:=by rw [a1];exact Nat.mod_lt _ b0
  have eo:bs R≤8796093022208:=Nat.le_trans (dI (by omega)) hb
  rw [e1,Int.toNat_natCast,b7,p1,p2,Nat.zero_add,Nat.mul_one,V2 _ _ _ _ _ _ _ _ _ _ _ _ _ _ b2,dT (show (i:Int) < a.size by omega),aM (z:=(i:Int)+1) (by omega),dT (show (0:Int)≤i by omega),dT (show (i:Int)≤i+1 by omega),dT (show (i:Int)+1≤a.size by omega),dT (show (aA R).size+(eT a i (i+1)).size≤9223372036854775807 by rw [b4,sE];omega),dT (show zs.length=zs.length from rfl),dT (show (i:Int) < zs.length by omega),dT (show i < zs.length by omega),kY,Nat.mod_eq_of_lt bx] at b3
  rw [b3]
  unfold jk iM
  rw [List.length_set]
  rfl
theorem aau (a:ByteArray) (zs:List Int) (r:ByteArray) (i:Int) (G I J M O U Z ab:ByteArray) (h:u6 a zs r i G I J M O U Z ab):∃ ρ:List Int×ByteArray×Int,
  av Tryz.prog (lb 161 ga) (jk a zs r i G I J M O U Z ab) (iM a zs r i G I J M O U Z ab) (.exit 2) (jk a ρ.1 ρ.2.1 ρ.2.2 G I J M O U Z ab) (iM a ρ.1 ρ.2.1 ρ.2.2 G I J M O U Z ab)∧zu a zs r i G I J M O U Z ab ρ:=by
 obtain ⟨B,a1,hb,aE,rfl,rfl,a6,ha⟩:=h
 have a7:vS G=B:=by rw [aE.1];exact (eY (1*B)).trans (Nat.one_mul B)
 unfold zu
 rw [a7]
 exact Xw a G I J M O U Z ab B a1 hb aE ha a.size 0 0 zs (by omega) a6 (by rw [List.take_zero];exact (Nat.zero_mod B).symm) (by rw [List.take_zero,List.take_zero];exact (Nat.zero_div B).symm)
def G6 (a6:ByteArray→List Int→ByteArray→Int→ByteArray→ByteArray→ByteArray→ByteArray→ByteArray→ByteArray→ByteArray→ByteArray→Bool) (aE:ByteArray→List Int→ByteArray→Int→ByteArray→ByteArray→ByteArray→ByteArray→ByteArray→ByteArray→ByteArray→ByteArray→List Int×ByteArray×Int) (T:List AV) (H:Hp):Option (Bool×Ex×List AV×Hp):=
 match al T 0,al T 6,al T 8,al T 9,al T 10,H with
 | .val (.string a), .ptr 0 0, .sl false 5 1 0 a1, .val (.string r), .val (.int .i64 i), [.row (.cells [.val (.string G), .val (.string I), .val (.string J), .val (.string M), .val (.string O), .val (.string U), .val (.string Z), .val (.string ab)]) 176 .live, .row (.ints .u8 zs) 5 .live]=>bif T.length==76 then some (decide (a1=zs.length)&&a6 a zs r i G I J M O U Z ab, .exit 2,jk a ((aE a zs r i G I J M O U Z ab).1) ((aE a zs r i G I J M O U Z ab).2.1) ((aE a zs r i G I J M O U Z ab).2.2) G I J M O U Z ab,iM a ((aE a zs r i G I J M O U Z ab).1) ((aE a zs r i G I J M O U Z ab).2.1) ((aE a zs r i G I J M O U Z ab).2.2) G I J M O U Z ab) else none
 | _,_,_,_,_,_=>none
abbrev Jy:Type:=ByteArray→List Int→ByteArray→Int→ByteArray→ByteArray→ByteArray→ByteArray→ByteArray→ByteArray→ByteArray→ByteArray→Bool
abbrev IZ:Type:=ByteArray→List Int→ByteArray→Int→ByteArray→ByteArray→ByteArray→ByteArray→ByteArray→ByteArray→ByteArray→ByteArray→List Int×ByteArray×Int
def B6 (G:Jy) (I:IZ) (L:aC):aC:=bp 0 161 ga [0,6,8,9,10] (G6 G I) L
def ki (a:ByteArray) (zs:List Int) (r:ByteArray) (i:Int) (G I J M O U Z ab:ByteArray):List Int×ByteArray×Int:=Classical.epsilon fun ρ=>av Tryz.prog (lb 161 ga) (jk a zs r i G I J M O U Z ab) (iM a zs r i G I J M O U Z ab) (.exit 2) (jk a (ρ.1) (ρ.2.1) (ρ.2.2) G I J M O U Z ab) (iM a (ρ.1) (ρ.2.1) (ρ.2.2) G I J M O U Z ab)∧zu a zs r i G I J M O U Z ab ρ
theorem N5 (a:ByteArray) (zs:List Int) (r:ByteArray) (i:Int) (G I J M O U Z ab:ByteArray) (h:u6 a zs r i G I J M O U Z ab):av Tryz.prog (lb 161 ga) (jk a zs r i G I J M O U Z ab) (iM a zs r i G I J M O U Z ab) (.exit 2) (jk a ((ki a zs r i G I J M O U Z ab).1) ((ki a zs r i G I J M O U Z ab).2.1) ((ki a zs r i G I J M O U Z ab).2.2) G I J M O U Z ab) (iM a ((ki a zs r i G I J M O U Z ab).1) ((ki a zs r i G I J M O U Z ab).2.1) ((ki a zs r i G I J M O U Z ab).2.2) G I J M O U Z ab)∧zu a zs r i G I J M O U Z ab (ki a zs r i G I J M O U Z ab):=Classical.epsilon_spec (aau a zs r i G I J M O U Z ab h)
def tK (a:ByteArray) (zs:List Int) (r:ByteArray) (i:Int) (G I J M O U Z ab:ByteArray):Bool:= @decide (u6 a zs r i G I J M O U Z ab) (Classical.propDecidable _)
theorem V3 (a:ByteArray) (zs:List Int) (r:ByteArray) (i:Int) (G I J M O U Z ab:ByteArray) (h:u6 a zs r i G I J M O U Z ab):tK a zs r i G I J M O U Z ab=true:= @decide_eq_true _ (Classical.propDecidable _) h
theorem af5 (T:List AV) (H:Hp) (e:Ex) (J:List AV) (I:Hp) (h:G6 tK ki T H=some (true,e,J,I)):V.Ends Tryz.prog false 0 0 (.loop (lb 161 ga)) T H e J I:=by
 unfold G6 at h
 split at h
 ·rename_i a b7 r i bD b0 b1 b2 b3 b4 b5 b6 zs U ab aE a1 Z
  rw [Bool.cond_eq_ite] at h
  split at h
  ·rename_i M
   rw [beq_iff_eq] at M
   simp only [Option.some.injEq,Prod.mk.injEq,Bool.and_eq_true,decide_eq_true_eq] at h
   obtain ⟨⟨k1,a7⟩,rfl,rfl,rfl⟩:=h
   have bx:= @of_decide_eq_true _ (Classical.propDecidable _) a7
   refine Ends.pre (N5 a zs r i bD b0 b1 b2 b3 b4 b5 b6 bx).1.ends (fun α B w D ch a6=>bq M (fun p O y G=> ?_) a6)
   simp only [List.mem_cons,List.not_mem_nil,or_false] at O
   rcases O with rfl | rfl | rfl | rfl | rfl
   ·rw [U] at G;exact G
   ·rw [ab] at G;exact G
   ·rw [aE] at G;rw [← k1];exact G
   ·rw [a1] at G;exact G
   ·rw [Z] at G;exact G
  ·cases h
 ·cases h
theorem RT {L:aC} (h:aB Tryz.prog L):aB Tryz.prog (B6 tK ki L):=h.bz Tn af5
theorem W9 (S:Sg) (aE:Jy) (a1:IZ) (a b:ByteArray):letI U:=(S.mg (S.vs b+S.vs b));letI J:=(S.mg (S.vs U+S.vs U));letI M:=(S.mg (S.vs J+S.vs J));letI I:=(S.mg (S.vs M+S.vs M));letI ab:=(List.replicate (↑a.size:Int).toNat (0:Int));letI O:=(S.mg (S.vs I+S.vs I));letI G:=(S.mg (S.vs O+S.vs O));letI Z:=(a1 a ab (ByteArray.mk #[]) (0:Int) b U J M I O G (S.mg (S.vs G+S.vs G)));
  (aF Tryz.prog ⟨fQ S,au,B6 aE a1 aq⟩ 10 10 161 [.val (.string a), .val (.string b)]=(bif S.ok b&&S.ok b then (bif S.ok U&&S.ok U then (bif S.ok J&&S.ok J then (bif S.ok M&&S.ok M then (bif S.ok I&&S.ok I then (bif S.ok O&&S.ok O then (bif S.ok G&&S.ok G then (bif decide ((↑a.size:Int)≤(↑a.size:Int))&&decide (1*(↑a.size:Int)≤281474976710656)&&decide ((↑a.size:Int)≤9223372036854775807) then (bif decide ((↑a.size:Int).toNat=ab.length)&&aE a ab (ByteArray.mk #[]) (0:Int) b U J M I O G (S.mg (S.vs G+S.vs G)) then (bif decide (0+Z.fst.length*1≤Z.fst.length) then some (.tup [(.val (.string (S.mg (S.vs (ofBytes (List.take (Z.fst.length*1) (List.drop 0 Z.fst))))))),(.val (.string (Z.snd.fst)))]) else none) else none) else none) else none) else none) else none) else none) else none) else none) else none)):=by kernel_rfl
end
end Go.Proofs.YtamcpiicmfielaaGreat.L
namespace Go.Proofs.YtamcpiicmfielaaGreat.L
open Go Go.V Go.RowKit Go.Proofs.YtamcpiicmfielaaGreat.Sp Go.Proofs.YtamcpiicmfielaaGreat.F Go.Proofs.YtamcpiicmfielaaGreatW.PrintWords
open Go.Proofs (Tryz.prog)
noncomputable section
def l8 (s:ByteArray):Bool:=decide (s.size≤4398046511104)
def Gx (S:Sg) (args:List AV):Option (Bool×AV):=match args with | [.val (.string s), .val (.string t)]=>some (l8 s&&l8 t&&aG t (S.mg (S.vs t))&&decide (0 < S.vs t), .tup [.val (.string (S.mg (S.vs s / S.vs t))), .val (.string (S.mg (S.vs s % S.vs t)))]) | _=>none
theorem XC:Entry Tryz.prog 161 (Gx aa):=by
 refine bg (E:= ⟨fQ aa,au,B6 tK ki aq⟩) (u:=10) (d:=10) AS (RT aB.none).ok mixed (by kernel_rfl) (fun args r h=> ?_)
 unfold Gx at h
 split at h
 ·rename_i a b
  simp only [Option.some.injEq,Prod.mk.injEq,Bool.and_eq_true,decide_eq_true_eq,oQ] at h
  obtain ⟨⟨⟨⟨J,I⟩,b1⟩,b2⟩,rfl⟩:=h
  have J:a.size≤4398046511104:=of_decide_eq_true J
  have I:b.size≤4398046511104:=of_decide_eq_true I
  have G:=W9 aa tK ki a b
  have b5:=pt b
  generalize hb:aa.vs b=B at*
  subst b1
  have U:∀ n:Nat,aa.vs (aa.mg n)=n:=AO
  have Z:B+B=2*B:=by omega
  have ab:2*B+2*B=4*B:=by omega
  have aE:4*B+4*B=8*B:=by omega
  have a1:8*B+8*B=16*B:=by omega
  have a6:16*B+16*B=32*B:=by omega
  have a7:32*B+32*B=64*B:=by omega
  have bx:64*B+64*B=128*B:=by omega
  have M:bs (256*B)≤8796093022208:=by
   have:=xB 256 B
   have I:bs 256≤2:=iC (by decide)
   omega
  have c9:∀ n:Nat,n≤256*B→aa.ok (aa.mg n)=true:=fun n b3=>ei (Nat.le_trans (dI b3) M)
  have O:u6 a (List.replicate a.size 0) (ByteArray.mk #[]) 0 (aa.mg B) (aa.mg (2*B)) (aa.mg (4*B)) (aa.mg (8*B)) (aa.mg (16*B)) (aa.mg (32*B)) (aa.mg (64*B)) (aa.mg (128*B)):=
   ⟨B,b2,M, ⟨by rw [Nat.one_mul];rfl,rfl,rfl,rfl,rfl,rfl,rfl,rfl⟩,rfl,lY.symm,by simp,by omega⟩
  obtain ⟨_,p1,p2,p3⟩:=N5 _ _ _ _ _ _ _ _ _ _ _ _ O
  have b4:vS (aa.mg B)=B:=U B
  rw [b4] at p2 p3
  simp only [U,Z,ab,aE,a1,a6,a7,bx,Int.toNat_natCast] at G
  rw [V3 _ _ _ _ _ _ _ _ _ _ _ _ O,c9 B (by omega),c9 (2*B) (by omega),c9 (4*B) (by omega),c9 (8*B) (by omega),c9 (16*B) (by omega),c9 (32*B) (by omega),c9 (64*B) (by omega)] at G
  generalize ki a (List.replicate a.size 0) (ByteArray.mk #[]) 0 (aa.mg B) (aa.mg (2*B)) (aa.mg (4*B)) (aa.mg (8*B)) (aa.mg (16*B)) (aa.mg (32*B)) (aa.mg (64*B)) (aa.mg (128*B))=ρ at*
  have e1:List.take (ρ.1.length*1) (List.drop 0 ρ.1)=ρ.1:=by rw [List.drop_zero,Nat.mul_one,List.take_length]
  have bD:aa.vs (ofBytes ρ.1)=aa.vs a / B:=p2
  have b0:ρ.2.1=aa.mg (aa.vs a % B):=p3
  rw [e1,bD,b0,dT (show (a.size:Int)≤a.size by omega),dT (show (1:Int)*a.size≤281474976710656 by omega),dT (show (a.size:Int)≤9223372036854775807 by omega),dT (show a.size=(List.replicate a.size (0:Int)).length by simp),dT (show 0+ρ.1.length*1≤ρ.1.length by omega)] at G
  exact G
 ·cases h
def qZ (S:Sg):FuncId→List AV→Option (Bool×AV):=aw 161 (Gx S) (aw 160 (oV S) (aw 162 (wL S) (aw 124 (kW S) aK)))
theorem A2:bf Tryz.prog (qZ aa):=((((aJ _).add uk).add LC).add ry).add XC
end
end Go.Proofs.YtamcpiicmfielaaGreat.L
namespace Go.Proofs.YtamcpiicmfielaaGreat.L
open Go Go.V Go.RowKit Go.Proofs.YtamcpiicmfielaaGreat.Sp Go.Proofs.YtamcpiicmfielaaGreat.F Go.Proofs.YtamcpiicmfielaaGreatW.PrintWords
open Go.Proofs (Tryz.prog)
noncomputable section
abbrev gl:List Bool:= [false,false,true,true]
def kN (x y:ByteArray) (G:Bool) (I:ByteArray):List AV:=ar 53 [(4, .ptr 0 0),(5, .val (.string x)),(6, .val (.string y))]
def jV (x y:ByteArray) (G:Bool) (I:ByteArray):Hp:= [.row (.cells [.val (.bool G), .val (.string I)]) 81 .live]
theorem TS:aH Tryz.prog 128 gl=some (.loop (lb 128 gl)):=by kernel_rfl
theorem Vx:aH Tryz.prog 128 (false :: gl)=some (lb 128 gl):=by kernel_rfl
theorem ad4 (S:Sg) (x y:ByteArray) (G:Bool) (I:ByteArray):aO Tryz.prog ⟨qZ S,au,aq⟩ 128 [4,5,6] (lb 128 gl) (false :: gl) (kN x y G I) (jV x y G I)=
  (bif !aG y (ByteArray.mk #[]) then (bif decide (7 < (↑x.size:Int)) then (bif l8 x&&l8 y&&aG y (S.mg (S.vs y))&&decide (0 < S.vs y) then some (.normal,ar 53 [(4,(.ptr 0 0)),(5,(.val (.string y))),(6,(.val (.string (S.mg (S.vs x % S.vs y)))))], [(.row (.cells [(.val (.bool G)),(.val (.string I))]) 81 .live)]) else none) else (bif decide (7 < (↑y.size:Int)) then (bif l8 x&&l8 y&&aG y (S.mg (S.vs y))&&decide (0 < S.vs y) then some (.normal,ar 53 [(4,(.ptr 0 0)),(5,(.val (.string y))),(6,(.val (.string (S.mg (S.vs x % S.vs y)))))], [(.row (.cells [(.val (.bool G)),(.val (.string I))]) 81 .live)]) else none) else some ((.exit 0),ar 53 [(4,(.ptr 0 0)),(5,(.val (.string x))),(6,(.val (.string y)))], [(.row (.cells [(.val (.bool G)),(.val (.string I))]) 81 .live)]))) else some ((.exit 0),ar 53 [(4,(.ptr 0 0)),(5,(.val (.string x))),(6,(.val (.string y)))], [(.row (.cells [(.val (.bool G)),(.val (.string I))]) 81 .live)])):=by kernel_rfl
theorem Gf {x y:ByteArray} {G:Bool} {I:ByteArray} {e:Ex} {T:List AV} {H:Hp} (h:aO Tryz.prog ⟨qZ aa,au,aq⟩ 128 [4,5,6] (lb 128 gl) (false :: gl) (kN x y G I) (jV x y G I)=some (e,T,H)):V.Ends Tryz.prog false 0 0 (lb 128 gl) (kN x y G I) (jV x y G I) e T H:=
 bF A2 aN mixed Vx h
theorem Nk (n:Nat):aG (aA n) (ByteArray.mk #[])=decide (n=0):=rP n
theorem Eh {n:Nat} (h:bs n≤4398046511104):l8 (aA n)=true:=decide_eq_true (by rw [sE];exact h)
theorem xE {n:Nat} (h:bs n≤7):n < 72057594037927936:=by
 have:=nX n
 exact Nat.lt_of_lt_of_le this (Nat.pow_le_pow_right (by decide:0 < 256) h)
theorem adu (J:Bool) (M:ByteArray) (k:Nat):∀ a b:Nat,b=k→bs a≤4398046511104→bs b≤4398046511104→∃ I G:Nat,av Tryz.prog (lb 128 gl) (kN (aA a) (aA b) J M) (jV (aA a) (aA b) J M) (.exit 0) (kN (aA I) (aA G) J M) (jV (aA I) (aA G) J M)∧Nat.gcd I G=Nat.gcd a b∧(G=0∨(bs I≤7∧bs G≤7)):=by
 induction k using Nat.strongRecOn with
 | _ k a7=>
  intro a b hb aE Z
  have U:=ad4 aa (aA a) (aA b) J M
  simp only [Nk,eY,sE] at U
  by_cases O:b=0
  ·refine ⟨a,b, .last (Gf ?_) (by intro h;cases h),rfl, .inl O⟩
   rw [U,dT O]
   rfl
  ·by_cases a1:bs a≤7∧bs b≤7
   ·refine ⟨a,b, .last (Gf ?_) (by intro h;cases h),rfl, .inr a1⟩
    rw [U,dF O,dF (show ¬ (7:Int) < (bs a:Nat) by omega),dF (show ¬ (7:Int) < (bs b:Nat) by omega)]
    rfl
   ·have a6:a % b < b:=Nat.mod_lt _ (by omega)
    have b0:=dI (Nat.le_of_lt a6)
    obtain ⟨I,G,k1,bx,bD⟩:=a7 (a % b) (by omega) b (a % b) rfl Z (by omega)
    refine ⟨I,G, .more (Gf ?_) k1, ?_,bD⟩
    ·have e:aG (aA b) (aa.mg b)=true:=lG _
     rw [U,dF O,Eh aE,Eh Z,e,dT (show 0 < b by omega)]
     by_cases ab:(7:Int) < (bs a:Nat)
     ·rw [dT ab];rfl
     ·rw [dF ab,dT (show (7:Int) < (bs b:Nat) by omega)];rfl
    ·rw [bx,Nat.gcd_comm b,← Nat.gcd_rec,Nat.gcd_comm]
def vG (x y:ByteArray) (G:Bool) (I:ByteArray):Prop:=∃ a b:Nat,x=aA a∧y=aA b∧bs a≤4398046511104∧bs b≤4398046511104
def EY (x y:ByteArray) (G:Bool) (I:ByteArray) (r:ByteArray×ByteArray):Prop:=∃ a b:Nat,r.1=aA a∧r.2=aA b∧Nat.gcd a b=Nat.gcd (vS x) (vS y)∧(b=0∨(bs a≤7∧bs b≤7))
theorem aaW (x y:ByteArray) (G:Bool) (I:ByteArray) (h:vG x y G I):∃ r:ByteArray×ByteArray,av Tryz.prog (lb 128 gl) (kN x y G I) (jV x y G I) (.exit 0) (kN r.1 r.2 G I) (jV r.1 r.2 G I)∧EY x y G I r:=by
 obtain ⟨a,b,rfl,rfl,O,U⟩:=h
 obtain ⟨J,M,k1,Z,ab⟩:=adu G I b a b rfl O U
 refine ⟨(aA J,aA M),k1,J,M,rfl,rfl, ?_,ab⟩
 rw [Z,show vS (aA a)=a from eY a,show vS (aA b)=b from eY b]
def HE (M:ByteArray→ByteArray→Bool→ByteArray→Bool) (J:ByteArray→ByteArray→Bool→ByteArray→ByteArray×ByteArray) (T:List AV) (H:Hp):Option (Bool×Ex×List AV×Hp):=
 match al T 4,al T 5,al T 6,H with
 | .ptr 0 0, .val (.string x), .val (.string y), [.row (.cells [.val (.bool G), .val (.string I)]) 81 .live]=>bif T.length==53 then some (M x y G I, .exit 0,kN ((J x y G I).1) ((J x y G I).2) G I,jV ((J x y G I).1) ((J x y G I).2) G I) else none
 | _,_,_,_=>none
abbrev JR:Type:=ByteArray→ByteArray→Bool→ByteArray→Bool
abbrev Jj:Type:=ByteArray→ByteArray→Bool→ByteArray→ByteArray×ByteArray
def Cq (G:JR) (I:Jj) (L:aC):aC:=bp 0 128 gl [4,5,6] (HE G I) L
def nv (x y:ByteArray) (G:Bool) (I:ByteArray):ByteArray×ByteArray:=Classical.epsilon fun ρ=>av Tryz.prog (lb 128 gl) (kN x y G I) (jV x y G I) (.exit 0) (kN (ρ.1) (ρ.2) G I) (jV (ρ.1) (ρ.2) G I)∧EY x y G I ρ
theorem Oq (x y:ByteArray) (G:Bool) (I:ByteArray) (h:vG x y G I):av Tryz.prog (lb 128 gl) (kN x y G I) (jV x y G I) (.exit 0) (kN ((nv x y G I).1) ((nv x y G I).2) G I) (jV ((nv x y G I).1) ((nv x y G I).2) G I)∧EY x y G I (nv x y G I):=Classical.epsilon_spec (aaW x y G I h)
def tU (x y:ByteArray) (G:Bool) (I:ByteArray):Bool:= @decide (vG x y G I) (Classical.propDecidable _)
theorem Wu (x y:ByteArray) (G:Bool) (I:ByteArray) (h:vG x y G I):tU x y G I=true:= @decide_eq_true _ (Classical.propDecidable _) h
theorem agy (T:List AV) (H:Hp) (e:Ex) (J:List AV) (I:Hp) (h:HE tU nv T H=some (true,e,J,I)):V.Ends Tryz.prog false 0 0 (.loop (lb 128 gl)) T H e J I:=by
 unfold HE at h
 split at h
 ·rename_i x y a6 a7 U Z ab
  rw [Bool.cond_eq_ite] at h
  split at h
  ·rename_i M
   rw [beq_iff_eq] at M
   simp only [Option.some.injEq,Prod.mk.injEq,Bool.and_eq_true,decide_eq_true_eq] at h
   obtain ⟨k1,rfl,rfl,rfl⟩:=h
   have a1:= @of_decide_eq_true _ (Classical.propDecidable _) k1
   refine Ends.pre (Oq x y a6 a7 a1).1.ends (fun α B w D bx aE=>bq M (fun p O y G=> ?_) aE)
   simp only [List.mem_cons,List.not_mem_nil,or_false] at O
   rcases O with rfl | rfl | rfl
   ·rw [U] at G;exact G
   ·rw [Z] at G;exact G
   ·rw [ab] at G;exact G
  ·cases h
 ·cases h
theorem Su {L:aC} (h:aB Tryz.prog L):aB Tryz.prog (Cq tU nv L):=h.bz TS agy
abbrev gm:List Bool:= [false,false,true,true,true,true,true]
def kO (m n:Int) (G:Bool) (I:ByteArray):List AV:=ar 53 [(4, .ptr 0 0),(9, .val (.int .i64 m)),(10, .val (.int .i64 n))]
def jW (m n:Int) (G:Bool) (I:ByteArray):Hp:= [.row (.cells [.val (.bool G), .val (.string I)]) 81 .live]
theorem TT:aH Tryz.prog 128 gm=some (.loop (lb 128 gm)):=by kernel_rfl
theorem Vy:aH Tryz.prog 128 (false :: gm)=some (lb 128 gm):=by kernel_rfl
theorem ad5 (m n:Int) (G:Bool) (I:ByteArray):aO Tryz.prog br 128 [4,9,10] (lb 128 gm) (false :: gm) (kO m n G I) (jW m n G I)=
  (bif decide (0 < n) then (bif decide (n=0) then none else some (.normal,ar 53 [(4,(.ptr 0 0)),(9,(.val (.int .i64 n))),(10,(.val (.int .i64 (m.tmod n))))], [(.row (.cells [(.val (.bool G)),(.val (.string I))]) 81 .live)])) else some ((.exit 2),ar 53 [(4,(.ptr 0 0)),(9,(.val (.int .i64 m))),(10,(.val (.int .i64 n)))], [(.row (.cells [(.val (.bool G)),(.val (.string I))]) 81 .live)])):=by kernel_rfl
theorem Qf {m n:Int} {G:Bool} {I:ByteArray} {e:Ex} {T:List AV} {H:Hp} (h:aO Tryz.prog br 128 [4,9,10] (lb 128 gm) (false :: gm) (kO m n G I) (jW m n G I)=some (e,T,H)):V.Ends Tryz.prog false 0 0 (lb 128 gm) (kO m n G I) (jW m n G I) e T H:=
 bF (aJ _) aN mixed Vy h
def vH (m n:Int) (G:Bool) (I:ByteArray):Prop:=0≤m∧0≤n
def EZ (m n:Int) (G:Bool) (I:ByteArray) (r:Int×Int):Prop:=r.1=(Nat.gcd m.toNat n.toNat:Nat)
theorem adw (G:Bool) (I:ByteArray) (k:Nat):∀ a b:Nat,b=k→∃ r:Int×Int,av Tryz.prog (lb 128 gm) (kO a b G I) (jW a b G I) (.exit 2) (kO r.1 r.2 G I) (jW r.1 r.2 G I)∧r.1=(Nat.gcd a b:Nat):=by
 induction k using Nat.strongRecOn with
 | _ k O=>
  intro a b hb
  have J:=ad5 a b G I
  by_cases M:b=0
  ·refine ⟨((a:Int),(b:Int)), .last (Qf ?_) (by intro h;cases h),by rw [M,Nat.gcd_zero_right]⟩
   rw [J,dF (show ¬ (0:Int) < (b:Int) by omega)]
   rfl
  ·have Z:a % b < b:=Nat.mod_lt _ (by omega)
   obtain ⟨r,k1,U⟩:=O (a % b) (by omega) b (a % b) rfl
   refine ⟨r, .more (Qf ?_) k1,by rw [U,Nat.gcd_comm b,← Nat.gcd_rec,Nat.gcd_comm]⟩
   rw [J,dT (show (0:Int) < (b:Int) by omega),dF (show ¬ (b:Int)=0 by omega)]
   rfl
theorem aaX (m n:Int) (G:Bool) (I:ByteArray) (h:vH m n G I):∃ r:Int×Int,av Tryz.prog (lb 128 gm) (kO m n G I) (jW m n G I) (.exit 2) (kO r.1 r.2 G I) (jW r.1 r.2 G I)∧EZ m n G I r:=by
 obtain ⟨J,M⟩:=h
 obtain ⟨a,rfl⟩:=Int.eq_ofNat_of_zero_le J
 obtain ⟨b,rfl⟩:=Int.eq_ofNat_of_zero_le M
 exact adw G I b a b rfl
def HF (M:Int→Int→Bool→ByteArray→Bool) (J:Int→Int→Bool→ByteArray→Int×Int) (T:List AV) (H:Hp):Option (Bool×Ex×List AV×Hp):=
 match al T 4,al T 9,al T 10,H with
 | .ptr 0 0, .val (.int .i64 m), .val (.int .i64 n), [.row (.cells [.val (.bool G), .val (.string I)]) 81 .live]=>bif T.length==53 then some (M m n G I, .exit 2,kO ((J m n G I).1) ((J m n G I).2) G I,jW ((J m n G I).1) ((J m n G I).2) G I) else none
 | _,_,_,_=>none
abbrev JS:Type:=Int→Int→Bool→ByteArray→Bool
abbrev Jk:Type:=Int→Int→Bool→ByteArray→Int×Int
def Cr (G:JS) (I:Jk) (L:aC):aC:=bp 0 128 gm [4,9,10] (HF G I) L
def mh (m n:Int) (G:Bool) (I:ByteArray):Int×Int:=Classical.epsilon fun ρ=>av Tryz.prog (lb 128 gm) (kO m n G I) (jW m n G I) (.exit 2) (kO (ρ.1) (ρ.2) G I) (jW (ρ.1) (ρ.2) G I)∧EZ m n G I ρ
theorem Ot (m n:Int) (G:Bool) (I:ByteArray) (h:vH m n G I):av Tryz.prog (lb 128 gm) (kO m n G I) (jW m n G I) (.exit 2) (kO ((mh m n G I).1) ((mh m n G I).2) G I) (jW ((mh m n G I).1) ((mh m n G I).2) G I)∧EZ m n G I (mh m n G I):=Classical.epsilon_spec (aaX m n G I h)
def tV (m n:Int) (G:Bool) (I:ByteArray):Bool:= @decide (vH m n G I) (Classical.propDecidable _)
theorem Wv (m n:Int) (G:Bool) (I:ByteArray) (h:vH m n G I):tV m n G I=true:= @decide_eq_true _ (Classical.propDecidable _) h
theorem agz (T:List AV) (H:Hp) (e:Ex) (J:List AV) (I:Hp) (h:HF tV mh T H=some (true,e,J,I)):V.Ends Tryz.prog false 0 0 (.loop (lb 128 gm)) T H e J I:=by
 unfold HF at h
 split at h
 ·rename_i m n a6 a7 Z ab U
  rw [Bool.cond_eq_ite] at h
  split at h
  ·rename_i M
   rw [beq_iff_eq] at M
   simp only [Option.some.injEq,Prod.mk.injEq,Bool.and_eq_true,decide_eq_true_eq] at h
   obtain ⟨k1,rfl,rfl,rfl⟩:=h
   have a1:= @of_decide_eq_true _ (Classical.propDecidable _) k1
   refine Ends.pre (Ot m n a6 a7 a1).1.ends (fun α B w D bx aE=>bq M (fun p O y G=> ?_) aE)
   simp only [List.mem_cons,List.not_mem_nil,or_false] at O
   rcases O with rfl | rfl | rfl
   ·rw [Z] at G;exact G
   ·rw [ab] at G;exact G
   ·rw [U] at G;exact G
  ·cases h
 ·cases h
theorem Sv {L:aC} (h:aB Tryz.prog L):aB Tryz.prog (Cr tV mh L):=h.bz TT agz
theorem adv (S:Sg) (J:JR) (O:Jj) (M:JS) (U:Jk) (b c:Bool) (s t:ByteArray):letI G:=(O (S.mg (S.vs s)) (S.mg (S.vs t)) false (ByteArray.mk #[]));letI I:=(U (↑(S.vs G.fst):Int) (↑(S.vs G.snd):Int) false (ByteArray.mk #[]));
  (aF Tryz.prog ⟨qZ S,au,Cq J O (Cr M U aq)⟩ 10 10 128 [.agg [.val (.bool b), .val (.string s)], .agg [.val (.bool c), .val (.string t)]]=(bif J (S.mg (S.vs s)) (S.mg (S.vs t)) false (ByteArray.mk #[]) then (bif aG G.snd (ByteArray.mk #[]) then some (.agg [(.val (.bool false)),(.val (.string (G.fst)))]) else (bif decide (G.fst.size≤8)&&decide (S.vs G.fst < 9223372036854775808) then (bif decide (G.snd.size≤8)&&decide (S.vs G.snd < 9223372036854775808) then (bif M (↑(S.vs G.fst):Int) (↑(S.vs G.snd):Int) false (ByteArray.mk #[]) then (bif cW I.fst then some (.agg [(.val (.bool (S.ng I.fst))),(.val (.string (S.ms I.fst)))]) else none) else none) else none) else none)) else none)):=by kernel_rfl
def An (S:Sg) (X:Xg) (args:List AV):Option (Bool×AV):=match args with | [.agg [.val (.bool b), .val (.string s)], .agg [.val (.bool c), .val (.string t)]]=>some (X.cN s&&X.cN t,S.int (X.gcd (S.val b s) (S.val c t))) | _=>none
theorem X9 (X:Xg) (aE:X.gcd=fun x y=>(Nat.gcd x.natAbs y.natAbs:Int)) (Z:X.cN=fun s=>decide (s.size≤68719476736)):Entry Tryz.prog 128 (An aa X):=by
 refine bg (E:= ⟨qZ aa,au,Cq tU nv (Cr tV mh aq)⟩) (u:=10) (d:=10) A2 (Su (Sv aB.none)).ok mixed (by kernel_rfl) (fun args r h=> ?_)
 unfold An at h
 split at h
 ·rename_i b s c t
  rw [Z,aE] at h
  simp only [Option.some.injEq,Prod.mk.injEq,Bool.and_eq_true,decide_eq_true_eq] at h
  obtain ⟨⟨b1,b2⟩,rfl⟩:=h
  have M:=adv aa tU nv tV mh b c s t
  have k1:=pt s
  have b4:=pt t
  have O:vG (aa.mg (aa.vs s)) (aa.mg (aa.vs t)) false (ByteArray.mk #[]):= ⟨aa.vs s,aa.vs t,rfl,rfl,by omega,by omega⟩
  obtain ⟨_,a,e,q1,q2,I,a1⟩:=Oq _ _ _ _ O
  have bx:vS (aa.mg (aa.vs s))=aa.vs s:=AO _
  have v2:vS (aa.mg (aa.vs t))=aa.vs t:=AO _
  rw [bx,v2] at I
  rw [Wu _ _ _ _ O,q1,q2,Nk] at M
  rw [M,← lL b s,← lL c t]
  have ab:∀ g:Nat,aa.int (g:Int)= .agg [.val (.bool false), .val (.string (aA g))]:=fun g=>uA (Int.natCast_nonneg g)
  by_cases G:e=0
  ·rw [G,Nat.gcd_zero_right] at I
   rw [dT G,← I,ab];rfl
  ·obtain ⟨a6,a7⟩:=a1.resolve_left G
   have w1:=xE a6
   have w2:=xE a7
   have bD:aa.vs (aA a)=a:=eY a
   have b0:aa.vs (aA e)=e:=eY e
   have U:vH (a:Int) (e:Int) false (ByteArray.mk #[]):= ⟨by omega,by omega⟩
   obtain ⟨_,J⟩:=Ot _ _ _ _ U
   have J:(mh (a:Int) (e:Int) false (ByteArray.mk #[])).1=(Nat.gcd a e:Nat):=J
   have b3:Nat.gcd a e≤e:=Nat.gcd_le_right _ (by omega)
   rw [dF G,sE,sE,bD,b0,dT (show bs a≤8 by omega),dT (show bs e≤8 by omega),dT (show a < 9223372036854775808 by omega),dT (show e < 9223372036854775808 by omega),Wv _ _ _ _ U,J]
   have hi:cW ((Nat.gcd a e:Nat):Int)=true:=by
    unfold cW
    rw [Bool.and_eq_true,decide_eq_true_eq,decide_eq_true_eq]
    omega
   rw [hi,I]
   rfl
 ·cases h
end
end Go.Proofs.YtamcpiicmfielaaGreat.L
namespace Go.Proofs.YtamcpiicmfielaaGreat.L
open Go Go.V Go.RowKit Go.Proofs.YtamcpiicmfielaaGreat.Sp Go.Proofs.YtamcpiicmfielaaGreat.F Go.Proofs.YtamcpiicmfielaaGreatW.PrintWords
open Go.Proofs (Tryz.prog)
noncomputable section
def wV (S:Sg):FuncId→List AV→Option (Bool×AV):=aw 130 (oS S) (aw 127 (lH S) (aw 163 (sS S) (qZ S)))
theorem Rw:bf Tryz.prog (wV aa):=((A2.add Yk).add Df).add uj
theorem adk (S:Sg) (b c:Bool) (s t:ByteArray):letI ab:=(S.mg (S.vs (S.ms (S.val b s)) / S.vs (S.ms (S.val c t))));letI I:=(S.mg (S.vs (S.ms (S.val b s)) % S.vs (S.ms (S.val c t))));letI O:=(-S.val false ab);letI Z:=(S.val false (S.ms (S.val c t)) - S.val false I);letI a6:=(S.val (S.ng O) (S.ms O) - S.val (S.ng (1:Int)) (S.ms (1:Int)));letI a7:Option AV:=(bif l8 (S.ms (S.val b s))&&l8 (S.ms (S.val c t))&&aG (S.ms (S.val c t)) (S.mg (S.vs (S.ms (S.val c t))))&&decide (0 < S.vs (S.ms (S.val c t))) then (bif bif true then !S.ng (S.val b s)==S.ng (S.val c t) else S.ng (S.val b s)==S.ng (S.val c t) then (bif S.ok ab then (bif !aG I (ByteArray.mk #[]) then (bif S.ok (S.ms O)&&S.ok (S.ms (1:Int)) then (bif S.ok (S.ms (S.val c t))&&S.ok I then (bif S.ng (S.val c t) then (bif S.ok (S.ms Z) then some (.tup [(.agg [(.val (.bool (S.ng a6))),(.val (.string (S.ms a6)))]),(.agg [(.val (.bool (S.ng (-S.val (S.ng Z) (S.ms Z))))),(.val (.string (S.ms (-S.val (S.ng Z) (S.ms Z)))))]),(.val (.int .i64 0))]) else none) else some (.tup [(.agg [(.val (.bool (S.ng a6))),(.val (.string (S.ms a6)))]),(.agg [(.val (.bool (S.ng Z))),(.val (.string (S.ms Z)))]),(.val (.int .i64 0))])) else none) else none) else (bif S.ng (S.val c t) then (bif S.ok I then some (.tup [(.agg [(.val (.bool (S.ng O))),(.val (.string (S.ms O)))]),(.agg [(.val (.bool (S.ng (-S.val false I)))),(.val (.string (S.ms (-S.val false I))))]),(.val (.int .i64 0))]) else none) else some (.tup [(.agg [(.val (.bool (S.ng O))),(.val (.string (S.ms O)))]),(.agg [(.val (.bool false)),(.val (.string I))]),(.val (.int .i64 0))]))) else none) else (bif S.ng (S.val c t) then (bif S.ok I then some (.tup [(.agg [(.val (.bool false)),(.val (.string ab))]),(.agg [(.val (.bool (S.ng (-S.val false I)))),(.val (.string (S.ms (-S.val false I))))]),(.val (.int .i64 0))]) else none) else some (.tup [(.agg [(.val (.bool false)),(.val (.string ab))]),(.agg [(.val (.bool false)),(.val (.string I))]),(.val (.int .i64 0))]))) else none);letI aE:=(↑(S.vs (S.ms (S.val c t))):Int);letI J:=((↑(S.vs (S.ms (S.val b s))):Int).tdiv aE);letI G:=((↑(S.vs (S.ms (S.val b s))):Int).tmod aE);letI M:=(-S.val (S.ng J) (S.ms J));letI a1:=(S.val (S.ng M) (S.ms M) - S.val (S.ng (1:Int)) (S.ms (1:Int)));letI U:=(S.val false (S.ms (S.val c t)) - S.val (S.ng G) (S.ms G));
  (aF Tryz.prog ⟨wV S,au,aq⟩ 10 10 129 [.agg [.val (.bool b), .val (.string s)], .agg [.val (.bool c), .val (.string t)]]=(bif aG (S.ms (S.val c t)) (ByteArray.mk #[]) then some (.tup [(.agg [(.val (.bool false)),(.val (.string (ByteArray.mk #[])))]),(.agg [(.val (.bool false)),(.val (.string (ByteArray.mk #[])))]),(.val (.int .i64 10))]) else (bif decide ((↑(S.ms (S.val b s)).size:Int) < 8) then (bif decide ((↑(S.ms (S.val c t)).size:Int) < 8) then (bif decide ((S.ms (S.val b s)).size≤8)&&decide (S.vs (S.ms (S.val b s)) < 9223372036854775808) then (bif decide ((S.ms (S.val c t)).size≤8)&&decide (S.vs (S.ms (S.val c t)) < 9223372036854775808) then (bif decide (aE=0) then none else (bif ai IntKind.i64 J then (bif cW J then (bif decide (aE=0) then none else (bif cW G then (bif bif true then !S.ng (S.val b s)==S.ng (S.val c t) else S.ng (S.val b s)==S.ng (S.val c t) then (bif S.ok (S.ms J) then (bif !aG (S.ms G) (ByteArray.mk #[]) then (bif S.ok (S.ms M)&&S.ok (S.ms (1:Int)) then (bif S.ok (S.ms (S.val c t))&&S.ok (S.ms G) then (bif S.ng (S.val c t) then (bif S.ok (S.ms U) then some (.tup [(.agg [(.val (.bool (S.ng a1))),(.val (.string (S.ms a1)))]),(.agg [(.val (.bool (S.ng (-S.val (S.ng U) (S.ms U))))),(.val (.string (S.ms (-S.val (S.ng U) (S.ms U)))))]),(.val (.int .i64 0))]) else none) else some (.tup [(.agg [(.val (.bool (S.ng a1))),(.val (.string (S.ms a1)))]),(.agg [(.val (.bool (S.ng U))),(.val (.string (S.ms U)))]),(.val (.int .i64 0))])) else none) else none) else (bif S.ng (S.val c t) then (bif S.ok (S.ms G) then some (.tup [(.agg [(.val (.bool (S.ng M))),(.val (.string (S.ms M)))]),(.agg [(.val (.bool (S.ng (-S.val (S.ng G) (S.ms G))))),(.val (.string (S.ms (-S.val (S.ng G) (S.ms G)))))]),(.val (.int .i64 0))]) else none) else some (.tup [(.agg [(.val (.bool (S.ng M))),(.val (.string (S.ms M)))]),(.agg [(.val (.bool (S.ng G))),(.val (.string (S.ms G)))]),(.val (.int .i64 0))]))) else none) else (bif S.ng (S.val c t) then (bif S.ok (S.ms G) then some (.tup [(.agg [(.val (.bool (S.ng J))),(.val (.string (S.ms J)))]),(.agg [(.val (.bool (S.ng (-S.val (S.ng G) (S.ms G))))),(.val (.string (S.ms (-S.val (S.ng G) (S.ms G)))))]),(.val (.int .i64 0))]) else none) else some (.tup [(.agg [(.val (.bool (S.ng J))),(.val (.string (S.ms J)))]),(.agg [(.val (.bool (S.ng G))),(.val (.string (S.ms G)))]),(.val (.int .i64 0))]))) else none)) else none) else none)) else none) else none) else a7) else a7))):=by kernel_rfl
end
end Go.Proofs.YtamcpiicmfielaaGreat.L
namespace Go.Proofs.YtamcpiicmfielaaGreat.L
open Go Go.V Go.RowKit Go.Proofs.YtamcpiicmfielaaGreat.Sp Go.Proofs.YtamcpiicmfielaaGreat.F
open Go.Proofs (Tryz.prog)
noncomputable section
def Ak (S:Sg) (X:Xg) (args:List AV):Option (Bool×AV):=match args with | [.agg [.val (.bool b), .val (.string s)], .agg [.val (.bool c), .val (.string t)]]=>some (X.cN s&&X.cN t, .tup [S.int (X.dq (S.val b s) (S.val c t)),S.int (X.dr (S.val b s) (S.val c t)), .val (.int .i64 (X.de (S.val c t)))]) | _=>none
theorem ahl (n:Nat):aa.val false (aa.mg n)=(n:Int):=congrArg Int.ofNat (AO n)
theorem ahm (z:Int):aa.val false (aa.ms z)=(z.natAbs:Int):=congrArg Int.ofNat (wQ z)
theorem abj (n:Nat):aG (aa.mg n) (ByteArray.mk #[])=decide (n=0):=rP n
theorem div_val {x y:Int} (ab:y≠0) (Q R:Nat) (U:x.natAbs / y.natAbs=Q) (O:x.natAbs % y.natAbs=R):
  ((x < 0↔y < 0)→zq x y=Q∧zr x y=if y < 0 then -(R:Int) else R)∧(¬ (x < 0↔y < 0)→R=0→zq x y= -(Q:Int)∧zr x y=0)∧(¬ (x < 0↔y < 0)→R≠0→zq x y= -(Q:Int) - 1∧zr x y=if y < 0 then -((y.natAbs:Int) - R) else (y.natAbs:Int) - R):=by
 have Z:R < y.natAbs:=by rw [← O];exact Nat.mod_lt _ (by omega)
 have J:(x.natAbs:Int)=(y.natAbs:Int)*Q+R:=by
  rw [← U,← O,← Int.natCast_mul,← Int.natCast_add,Nat.div_add_mod]
 refine ⟨fun h=> ?_,fun h M=> ?_,fun h M=> ?_⟩
 ·apply ux
  ·by_cases G:y < 0
   ·rw [if_pos G]
    have e1:(x.natAbs:Int)= -x:=by have:=h.2 G;omega
    have I:(y.natAbs:Int)= -y:=by omega
    rw [e1,I] at J
    grind
   ·rw [if_neg G]
    have e1:(x.natAbs:Int)=x:=by have:¬ x < 0:=fun h'=>G (h.1 h');omega
    have I:(y.natAbs:Int)=y:=by omega
    rw [e1,I] at J
    grind
  ·by_cases G:y < 0
   ·rw [if_pos G];omega
   ·rw [if_neg G];omega
 ·apply ux
  ·by_cases G:y < 0
   ·have e1:(x.natAbs:Int)=x:=by have:¬ x < 0:=fun h'=>h ⟨fun _=>G,fun _=>h'⟩;omega
    have I:(y.natAbs:Int)= -y:=by omega
    rw [e1,I,M] at J
    grind
   ·have e1:(x.natAbs:Int)= -x:=by
     have:x < 0:=Classical.byContradiction fun h'=>h ⟨fun k=>absurd k h',fun k=>absurd k G⟩
     omega
    have I:(y.natAbs:Int)=y:=by omega
    rw [e1,I,M] at J
    grind
  ·omega
 ·apply ux
  ·by_cases G:y < 0
   ·rw [if_pos G]
    have e1:(x.natAbs:Int)=x:=by have:¬ x < 0:=fun h'=>h ⟨fun _=>G,fun _=>h'⟩;omega
    have I:(y.natAbs:Int)= -y:=by omega
    rw [e1,I] at J
    rw [I]
    grind
   ·rw [if_neg G]
    have e1:(x.natAbs:Int)= -x:=by
     have:x < 0:=Classical.byContradiction fun h'=>h ⟨fun k=>absurd k h',fun k=>absurd k G⟩
     omega
    have I:(y.natAbs:Int)=y:=by omega
    rw [e1,I] at J
    rw [I]
    grind
  ·by_cases G:y < 0
   ·rw [if_pos G];omega
   ·rw [if_neg G];omega
theorem X7 (X:Xg) (b4:X.dq=zq) (b5:X.dr=zr) (b3:X.de=ze) (b2:X.cN=fun s=>decide (s.size≤68719476736)):Entry Tryz.prog 129 (Ak aa X):=by
 refine bg (E:= ⟨wV aa,au,aq⟩) (u:=10) (d:=10) Rw aN mixed (by kernel_rfl) (fun args r h=> ?_)
 unfold Ak at h
 split at h
 ·rename_i b s c t
  rw [b2,b4,b5,b3] at h
  simp only [Option.some.injEq,Prod.mk.injEq,Bool.and_eq_true,decide_eq_true_eq] at h
  obtain ⟨⟨c3,c4⟩,rfl⟩:=h
  have J:=adk aa b c s t
  have k1:=dK b s
  have ed:=dK c t
  simp only [eX,wQ,ahl,ahm,abj,uO,wv] at J
  generalize aa.val b s=x at*
  generalize aa.val c t=y at*
  have z0:∀ z,aa.int z= .agg [.val (.bool (aa.ng z)), .val (.string (aa.ms z))]:=fun z=>rfl
  by_cases O:y=0
  ·rw [dT O] at J
   rw [J,O,LS]
   have e1:zq x 0=0:=if_pos rfl
   have I:zr x 0=0:=if_pos rfl
   rw [e1,I,uA (Int.le_refl 0)]
   have b1:aa.mg (0:Int).natAbs=ByteArray.mk #[]:=lY
   rw [b1];rfl
  ·obtain ⟨Z,v2,bD⟩:=div_val (x:=x) O _ _ rfl rfl
   have c7:x.natAbs % y.natAbs < y.natAbs:=Nat.mod_lt _ (by omega)
   have dy:=Nat.mod_le x.natAbs y.natAbs
   have c6:=Nat.div_le_self x.natAbs y.natAbs
   have ct:((x.natAbs:Nat):Int).tdiv ((y.natAbs:Nat):Int)=((x.natAbs / y.natAbs:Nat):Int):=rfl
   have c0:((x.natAbs:Nat):Int).tmod ((y.natAbs:Nat):Int)=((x.natAbs % y.natAbs:Nat):Int):=rfl
   rw [ct,c0,dm x,dm y] at J
   have ea:=tA (x.natAbs+y.natAbs) 1
   have eb:=tA x.natAbs y.natAbs
   have ec:bs 1≤1:=iC (by decide)
   have qa:∀ z:Int,z.natAbs≤x.natAbs+y.natAbs+1→aa.ok (aa.ms z)=true:=fun z ab=>bW (Nat.le_trans (dI ab) (by omega))
   have zf:∀ n:Nat,n≤x.natAbs+y.natAbs+1→aa.ok (aa.mg n)=true:=fun n G=>ei (Nat.le_trans (dI G) (by omega))
   have bx:∀ z:Int,z.natAbs≤x.natAbs+y.natAbs+1→l8 (aa.ms z)=true:=fun z ab=>Eh (Nat.le_trans (dI ab) (by omega))
   have b6:aG (aa.ms y) (aa.mg y.natAbs)=true:=lG _
   rw [dF O,qa y (by omega),qa 1 (by omega),bx x (by omega),bx y (by omega),b6,dT (show 0 < y.natAbs by omega),dF (show ¬ ((y.natAbs:Nat):Int)=0 by omega)] at J
   generalize c5:x.natAbs / y.natAbs=Q at*
   generalize dx:x.natAbs % y.natAbs=R at*
   rw [zf Q (by omega),zf R (by omega),qa (Q:Int) (by omega),qa (R:Int) (by omega),qa (-(Q:Int)) (by omega),qa ((y.natAbs:Int) - (R:Int)) (by omega)] at J
   rw [LU O]
   have a6:=uA (z:=(Q:Int)) (by omega)
   have U:=uA (z:=(R:Int)) (by omega)
   rw [Int.natAbs_natCast] at a6 U
   have aE:∀ u:Bool,(bif u then (bs x.natAbs≤7∧bs y.natAbs≤7) else ¬ (bs x.natAbs≤7∧bs y.natAbs≤7))=True→aF Tryz.prog ⟨wV aa,au,aq⟩ 10 10 129 [.agg [.val (.bool b), .val (.string s)], .agg [.val (.bool c), .val (.string t)]]=some (.tup [aa.int (zq x y),aa.int (zr x y), .val (.int .i64 0)]):=by
    intro u M
    have a7:(x < 0↔y < 0)∨(¬ (x < 0↔y < 0)∧R=0)∨(¬ (x < 0↔y < 0)∧R≠0):=by
     by_cases q1:(x < 0↔y < 0)
     ·exact .inl q1
     ·by_cases q2:R=0
      ·exact .inr (.inl ⟨q1,q2⟩)
      ·exact .inr (.inr ⟨q1,q2⟩)
    cases u with
    | true=>
     have M:bs x.natAbs≤7∧bs y.natAbs≤7:=of_eq_true M
     have w1:=xE M.1
     have w2:=xE M.2
     have b7:cW (Q:Int)=true:=by unfold cW;rw [Bool.and_eq_true,decide_eq_true_eq,decide_eq_true_eq];omega
     have ch:cW (R:Int)=true:=by unfold cW;rw [Bool.and_eq_true,decide_eq_true_eq,decide_eq_true_eq];omega
     rw [dT (show ((bs x.natAbs:Nat):Int) < 8 by omega),dT (show ((bs y.natAbs:Nat):Int) < 8 by omega),dT (show bs x.natAbs≤8 by omega),dT (show bs y.natAbs≤8 by omega),dT (show x.natAbs < 9223372036854775808 by omega),dT (show y.natAbs < 9223372036854775808 by omega),aM (z:=(Q:Int)) (by omega),b7,ch] at J
     rw [J]
     rcases a7 with q | ⟨q,q2⟩ | ⟨q,q2⟩
     ·rw [(Z q).1,(Z q).2,CD q]
      by_cases G:y < 0
      ·rw [dT G,if_pos G];rfl
      ·rw [dF G,if_neg G];rfl
     ·obtain ⟨e1,I⟩:=v2 q q2
      rw [e1,I,xz q,q2,dT (show ((0:Nat):Int)=0 from rfl)]
      by_cases G:y < 0
      ·rw [dT G];rfl
      ·rw [dF G];rfl
     ·obtain ⟨e1,I⟩:=bD q q2
      rw [e1,I,xz q,dF (show ¬ ((R:Nat):Int)=0 by omega)]
      by_cases G:y < 0
      ·rw [dT G,if_pos G];rfl
      ·rw [dF G,if_neg G];rfl
    | false=>
     have M:¬ (bs x.natAbs≤7∧bs y.natAbs≤7):=of_eq_true M
     rw [J]
     have b0:∀ (X Y:Option AV),(bif decide (((bs x.natAbs:Nat):Int) < 8) then (bif decide (((bs y.natAbs:Nat):Int) < 8) then X else Y) else Y)=Y:=by
      intro X Y
      by_cases p1:bs x.natAbs≤7
      ·rw [dT (show ((bs x.natAbs:Nat):Int) < 8 by omega),dF (show ¬ ((bs y.natAbs:Nat):Int) < 8 by omega)];rfl
      ·rw [dF (show ¬ ((bs x.natAbs:Nat):Int) < 8 by omega)];rfl
     rw [cond_false,b0]
     rcases a7 with q | ⟨q,q2⟩ | ⟨q,q2⟩
     ·rw [(Z q).1,(Z q).2,CD q,a6]
      by_cases G:y < 0
      ·rw [dT G,if_pos G];rfl
      ·rw [dF G,if_neg G,U];rfl
     ·obtain ⟨e1,I⟩:=v2 q q2
      rw [q2] at U
      rw [e1,I,xz q,q2,dT (show (0:Nat)=0 from rfl)]
      by_cases G:y < 0
      ·rw [dT G];rfl
      ·rw [dF G,show (0:Int)=((0:Nat):Int) from rfl,U];rfl
     ·obtain ⟨e1,I⟩:=bD q q2
      rw [e1,I,xz q,dF q2]
      by_cases G:y < 0
      ·rw [dT G,if_pos G];rfl
      ·rw [dF G,if_neg G];rfl
   by_cases a1:bs x.natAbs≤7∧bs y.natAbs≤7
   ·exact aE true (eq_true a1)
   ·exact aE false (eq_true a1)
 ·cases h
end
end Go.Proofs.YtamcpiicmfielaaGreat.L
