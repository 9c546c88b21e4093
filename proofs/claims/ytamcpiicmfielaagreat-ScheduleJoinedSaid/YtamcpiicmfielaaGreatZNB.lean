import Derived.Test.YtamcpiicmfielaaGreatZNA
import Derived.Test.YtamcpiicmfielaaGreatZMD
set_option linter.unusedVariables false
set_option linter.unusedSimpArgs false
namespace Go.Proofs.YtamcpiicmfielaaGreat.L
open Go Go.V Go.RowKit Go.Proofs.YtamcpiicmfielaaGreat.Sp Go.Proofs.YtamcpiicmfielaaGreat.F Go.Proofs.YtamcpiicmfielaaGreatW.PrintWords
open Go.Proofs (Tryz.prog)
noncomputable section
def CDm (S:Sg):FuncId→List AV→Option (Bool×AV):=addC 133 (tRCmpM S) (addC 137 (tRSubM S) (addC 160 (tStrip S) (addC 136 (tRAddM S) noC)))
theorem CDm_ok:Meets Tryz.prog (CDm sg0):=((((meets_none _).add eRAddM).add eRTrim).add eRSubM).add eRCmpM
abbrev p_dm:List Bool:= [false,true,false,true,true,false,false,true,false,false,true,false,true,true,true,true,true,true]
def sh_dm (a:ByteArray) (zs:List Int) (r:ByteArray) (i:Int) (d:Int) (k:Int) (t0:ByteArray) (t1:ByteArray) (t2:ByteArray) (t3:ByteArray) (t4:ByteArray) (t5:ByteArray) (t6:ByteArray) (t7:ByteArray):List AV:=slots 76 [(0, .val (.string a)),(6, .ptr 0 0),(8, .sl false 5 1 0 zs.length),(9, .val (.string r)),(10, .val (.int .i64 i)),(11, .val (.int .i64 d)),(12, .val (.int .i64 k))]
def hp_dm (a:ByteArray) (zs:List Int) (r:ByteArray) (i:Int) (d:Int) (k:Int) (t0:ByteArray) (t1:ByteArray) (t2:ByteArray) (t3:ByteArray) (t4:ByteArray) (t5:ByteArray) (t6:ByteArray) (t7:ByteArray):Hp:= [.row (.cells [.val (.string t0), .val (.string t1), .val (.string t2), .val (.string t3), .val (.string t4), .val (.string t5), .val (.string t6), .val (.string t7)]) 176 .live, .row (.ints .u8 zs) 5 .live]
theorem body_dm:subC Tryz.prog 161 p_dm=some (.loop (lb 161 p_dm)):=by kernel_rfl
theorem code_dm:subC Tryz.prog 161 (false :: p_dm)=some (lb 161 p_dm):=by kernel_rfl
theorem step_dm {a:ByteArray} {zs:List Int} {r:ByteArray} {i:Int} {d:Int} {k:Int} {t0:ByteArray} {t1:ByteArray} {t2:ByteArray} {t3:ByteArray} {t4:ByteArray} {t5:ByteArray} {t6:ByteArray} {t7:ByteArray} {e:Ex} {T:List AV} {H:Hp} (h:roundA Tryz.prog ⟨CDm sg0,Kall,noL⟩ 161 [0,6,8,9,10,11,12] (lb 161 p_dm) (false :: p_dm) (sh_dm a zs r i d k t0 t1 t2 t3 t4 t5 t6 t7) (hp_dm a zs r i d k t0 t1 t2 t3 t4 t5 t6 t7)=some (e,T,H)):V.Ends Tryz.prog false 0 0 (lb 161 p_dm) (sh_dm a zs r i d k t0 t1 t2 t3 t4 t5 t6 t7) (hp_dm a zs r i d k t0 t1 t2 t3 t4 t5 t6 t7) e T H:=
 round_ends CDm_ok loops_none mixed code_dm h
theorem dm_r7 (S:Sg) (a:ByteArray) (zs:List Int) (r:ByteArray) (i d:Int) (t0 t1 t2 t3 t4 t5 t6 t7:ByteArray):roundA Tryz.prog ⟨CDm S,Kall,noL⟩ 161 [0,6,8,9,10,11,12] (lb 161 p_dm) (false :: p_dm) (sh_dm a zs r i d (7) t0 t1 t2 t3 t4 t5 t6 t7) (hp_dm a zs r i d (7) t0 t1 t2 t3 t4 t5 t6 t7)=
  (bif strEq r (S.mg (S.vs r))&&strEq t7 (S.mg (S.vs t7)) then (bif decide ((0:Int)≤S.cmp (S.vs r) (S.vs t7)) then (bif S.ok r&&S.ok t7&&decide (S.vs t7≤S.vs r) then (bif inR IntKind.i64 (d+(128:Int)) then some (.normal,slots 76 [(0,(.val (.string a))),(6,(.ptr 0 0)),(8,(.sl false 5 1 0 zs.length)),(9,(.val (.string (S.mg (S.vs r - S.vs t7))))),(10,(.val (.int .i64 i))),(11,(.val (.int .i64 (d+(128:Int))))),(12,(.val (.int .i64 6)))], [(.row (.cells [(.val (.string t0)),(.val (.string t1)),(.val (.string t2)),(.val (.string t3)),(.val (.string t4)),(.val (.string t5)),(.val (.string t6)),(.val (.string t7))]) 176 .live),(.row (.ints .u8 zs) 5 .live)]) else none) else none) else some (.normal,slots 76 [(0,(.val (.string a))),(6,(.ptr 0 0)),(8,(.sl false 5 1 0 zs.length)),(9,(.val (.string r))),(10,(.val (.int .i64 i))),(11,(.val (.int .i64 d))),(12,(.val (.int .i64 6)))], [(.row (.cells [(.val (.string t0)),(.val (.string t1)),(.val (.string t2)),(.val (.string t3)),(.val (.string t4)),(.val (.string t5)),(.val (.string t6)),(.val (.string t7))]) 176 .live),(.row (.ints .u8 zs) 5 .live)])) else none):=by kernel_rfl
theorem dm_r6 (S:Sg) (a:ByteArray) (zs:List Int) (r:ByteArray) (i d:Int) (t0 t1 t2 t3 t4 t5 t6 t7:ByteArray):roundA Tryz.prog ⟨CDm S,Kall,noL⟩ 161 [0,6,8,9,10,11,12] (lb 161 p_dm) (false :: p_dm) (sh_dm a zs r i d (6) t0 t1 t2 t3 t4 t5 t6 t7) (hp_dm a zs r i d (6) t0 t1 t2 t3 t4 t5 t6 t7)=
  (bif strEq r (S.mg (S.vs r))&&strEq t6 (S.mg (S.vs t6)) then (bif decide ((0:Int)≤S.cmp (S.vs r) (S.vs t6)) then (bif S.ok r&&S.ok t6&&decide (S.vs t6≤S.vs r) then (bif inR IntKind.i64 (d+(64:Int)) then some (.normal,slots 76 [(0,(.val (.string a))),(6,(.ptr 0 0)),(8,(.sl false 5 1 0 zs.length)),(9,(.val (.string (S.mg (S.vs r - S.vs t6))))),(10,(.val (.int .i64 i))),(11,(.val (.int .i64 (d+(64:Int))))),(12,(.val (.int .i64 5)))], [(.row (.cells [(.val (.string t0)),(.val (.string t1)),(.val (.string t2)),(.val (.string t3)),(.val (.string t4)),(.val (.string t5)),(.val (.string t6)),(.val (.string t7))]) 176 .live),(.row (.ints .u8 zs) 5 .live)]) else none) else none) else some (.normal,slots 76 [(0,(.val (.string a))),(6,(.ptr 0 0)),(8,(.sl false 5 1 0 zs.length)),(9,(.val (.string r))),(10,(.val (.int .i64 i))),(11,(.val (.int .i64 d))),(12,(.val (.int .i64 5)))], [(.row (.cells [(.val (.string t0)),(.val (.string t1)),(.val (.string t2)),(.val (.string t3)),(.val (.string t4)),(.val (.string t5)),(.val (.string t6)),(.val (.string t7))]) 176 .live),(.row (.ints .u8 zs) 5 .live)])) else none):=by kernel_rfl
theorem dm_r5 (S:Sg) (a:ByteArray) (zs:List Int) (r:ByteArray) (i d:Int) (t0 t1 t2 t3 t4 t5 t6 t7:ByteArray):roundA Tryz.prog ⟨CDm S,Kall,noL⟩ 161 [0,6,8,9,10,11,12] (lb 161 p_dm) (false :: p_dm) (sh_dm a zs r i d (5) t0 t1 t2 t3 t4 t5 t6 t7) (hp_dm a zs r i d (5) t0 t1 t2 t3 t4 t5 t6 t7)=
  (bif strEq r (S.mg (S.vs r))&&strEq t5 (S.mg (S.vs t5)) then (bif decide ((0:Int)≤S.cmp (S.vs r) (S.vs t5)) then (bif S.ok r&&S.ok t5&&decide (S.vs t5≤S.vs r) then (bif inR IntKind.i64 (d+(32:Int)) then some (.normal,slots 76 [(0,(.val (.string a))),(6,(.ptr 0 0)),(8,(.sl false 5 1 0 zs.length)),(9,(.val (.string (S.mg (S.vs r - S.vs t5))))),(10,(.val (.int .i64 i))),(11,(.val (.int .i64 (d+(32:Int))))),(12,(.val (.int .i64 4)))], [(.row (.cells [(.val (.string t0)),(.val (.string t1)),(.val (.string t2)),(.val (.string t3)),(.val (.string t4)),(.val (.string t5)),(.val (.string t6)),(.val (.string t7))]) 176 .live),(.row (.ints .u8 zs) 5 .live)]) else none) else none) else some (.normal,slots 76 [(0,(.val (.string a))),(6,(.ptr 0 0)),(8,(.sl false 5 1 0 zs.length)),(9,(.val (.string r))),(10,(.val (.int .i64 i))),(11,(.val (.int .i64 d))),(12,(.val (.int .i64 4)))], [(.row (.cells [(.val (.string t0)),(.val (.string t1)),(.val (.string t2)),(.val (.string t3)),(.val (.string t4)),(.val (.string t5)),(.val (.string t6)),(.val (.string t7))]) 176 .live),(.row (.ints .u8 zs) 5 .live)])) else none):=by kernel_rfl
theorem dm_r4 (S:Sg) (a:ByteArray) (zs:List Int) (r:ByteArray) (i d:Int) (t0 t1 t2 t3 t4 t5 t6 t7:ByteArray):roundA Tryz.prog ⟨CDm S,Kall,noL⟩ 161 [0,6,8,9,10,11,12] (lb 161 p_dm) (false :: p_dm) (sh_dm a zs r i d (4) t0 t1 t2 t3 t4 t5 t6 t7) (hp_dm a zs r i d (4) t0 t1 t2 t3 t4 t5 t6 t7)=
  (bif strEq r (S.mg (S.vs r))&&strEq t4 (S.mg (S.vs t4)) then (bif decide ((0:Int)≤S.cmp (S.vs r) (S.vs t4)) then (bif S.ok r&&S.ok t4&&decide (S.vs t4≤S.vs r) then (bif inR IntKind.i64 (d+(16:Int)) then some (.normal,slots 76 [(0,(.val (.string a))),(6,(.ptr 0 0)),(8,(.sl false 5 1 0 zs.length)),(9,(.val (.string (S.mg (S.vs r - S.vs t4))))),(10,(.val (.int .i64 i))),(11,(.val (.int .i64 (d+(16:Int))))),(12,(.val (.int .i64 3)))], [(.row (.cells [(.val (.string t0)),(.val (.string t1)),(.val (.string t2)),(.val (.string t3)),(.val (.string t4)),(.val (.string t5)),(.val (.string t6)),(.val (.string t7))]) 176 .live),(.row (.ints .u8 zs) 5 .live)]) else none) else none) else some (.normal,slots 76 [(0,(.val (.string a))),(6,(.ptr 0 0)),(8,(.sl false 5 1 0 zs.length)),(9,(.val (.string r))),(10,(.val (.int .i64 i))),(11,(.val (.int .i64 d))),(12,(.val (.int .i64 3)))], [(.row (.cells [(.val (.string t0)),(.val (.string t1)),(.val (.string t2)),(.val (.string t3)),(.val (.string t4)),(.val (.string t5)),(.val (.string t6)),(.val (.string t7))]) 176 .live),(.row (.ints .u8 zs) 5 .live)])) else none):=by kernel_rfl
theorem dm_r3 (S:Sg) (a:ByteArray) (zs:List Int) (r:ByteArray) (i d:Int) (t0 t1 t2 t3 t4 t5 t6 t7:ByteArray):roundA Tryz.prog ⟨CDm S,Kall,noL⟩ 161 [0,6,8,9,10,11,12] (lb 161 p_dm) (false :: p_dm) (sh_dm a zs r i d (3) t0 t1 t2 t3 t4 t5 t6 t7) (hp_dm a zs r i d (3) t0 t1 t2 t3 t4 t5 t6 t7)=
  (bif strEq r (S.mg (S.vs r))&&strEq t3 (S.mg (S.vs t3)) then (bif decide ((0:Int)≤S.cmp (S.vs r) (S.vs t3)) then (bif S.ok r&&S.ok t3&&decide (S.vs t3≤S.vs r) then (bif inR IntKind.i64 (d+(8:Int)) then some (.normal,slots 76 [(0,(.val (.string a))),(6,(.ptr 0 0)),(8,(.sl false 5 1 0 zs.length)),(9,(.val (.string (S.mg (S.vs r - S.vs t3))))),(10,(.val (.int .i64 i))),(11,(.val (.int .i64 (d+(8:Int))))),(12,(.val (.int .i64 2)))], [(.row (.cells [(.val (.string t0)),(.val (.string t1)),(.val (.string t2)),(.val (.string t3)),(.val (.string t4)),(.val (.string t5)),(.val (.string t6)),(.val (.string t7))]) 176 .live),(.row (.ints .u8 zs) 5 .live)]) else none) else none) else some (.normal,slots 76 [(0,(.val (.string a))),(6,(.ptr 0 0)),(8,(.sl false 5 1 0 zs.length)),(9,(.val (.string r))),(10,(.val (.int .i64 i))),(11,(.val (.int .i64 d))),(12,(.val (.int .i64 2)))], [(.row (.cells [(.val (.string t0)),(.val (.string t1)),(.val (.string t2)),(.val (.string t3)),(.val (.string t4)),(.val (.string t5)),(.val (.string t6)),(.val (.string t7))]) 176 .live),(.row (.ints .u8 zs) 5 .live)])) else none):=by kernel_rfl
theorem dm_r2 (S:Sg) (a:ByteArray) (zs:List Int) (r:ByteArray) (i d:Int) (t0 t1 t2 t3 t4 t5 t6 t7:ByteArray):roundA Tryz.prog ⟨CDm S,Kall,noL⟩ 161 [0,6,8,9,10,11,12] (lb 161 p_dm) (false :: p_dm) (sh_dm a zs r i d (2) t0 t1 t2 t3 t4 t5 t6 t7) (hp_dm a zs r i d (2) t0 t1 t2 t3 t4 t5 t6 t7)=
  (bif strEq r (S.mg (S.vs r))&&strEq t2 (S.mg (S.vs t2)) then (bif decide ((0:Int)≤S.cmp (S.vs r) (S.vs t2)) then (bif S.ok r&&S.ok t2&&decide (S.vs t2≤S.vs r) then (bif inR IntKind.i64 (d+(4:Int)) then some (.normal,slots 76 [(0,(.val (.string a))),(6,(.ptr 0 0)),(8,(.sl false 5 1 0 zs.length)),(9,(.val (.string (S.mg (S.vs r - S.vs t2))))),(10,(.val (.int .i64 i))),(11,(.val (.int .i64 (d+(4:Int))))),(12,(.val (.int .i64 1)))], [(.row (.cells [(.val (.string t0)),(.val (.string t1)),(.val (.string t2)),(.val (.string t3)),(.val (.string t4)),(.val (.string t5)),(.val (.string t6)),(.val (.string t7))]) 176 .live),(.row (.ints .u8 zs) 5 .live)]) else none) else none) else some (.normal,slots 76 [(0,(.val (.string a))),(6,(.ptr 0 0)),(8,(.sl false 5 1 0 zs.length)),(9,(.val (.string r))),(10,(.val (.int .i64 i))),(11,(.val (.int .i64 d))),(12,(.val (.int .i64 1)))], [(.row (.cells [(.val (.string t0)),(.val (.string t1)),(.val (.string t2)),(.val (.string t3)),(.val (.string t4)),(.val (.string t5)),(.val (.string t6)),(.val (.string t7))]) 176 .live),(.row (.ints .u8 zs) 5 .live)])) else none):=by kernel_rfl
theorem dm_r1 (S:Sg) (a:ByteArray) (zs:List Int) (r:ByteArray) (i d:Int) (t0 t1 t2 t3 t4 t5 t6 t7:ByteArray):roundA Tryz.prog ⟨CDm S,Kall,noL⟩ 161 [0,6,8,9,10,11,12] (lb 161 p_dm) (false :: p_dm) (sh_dm a zs r i d (1) t0 t1 t2 t3 t4 t5 t6 t7) (hp_dm a zs r i d (1) t0 t1 t2 t3 t4 t5 t6 t7)=
  (bif strEq r (S.mg (S.vs r))&&strEq t1 (S.mg (S.vs t1)) then (bif decide ((0:Int)≤S.cmp (S.vs r) (S.vs t1)) then (bif S.ok r&&S.ok t1&&decide (S.vs t1≤S.vs r) then (bif inR IntKind.i64 (d+(2:Int)) then some (.normal,slots 76 [(0,(.val (.string a))),(6,(.ptr 0 0)),(8,(.sl false 5 1 0 zs.length)),(9,(.val (.string (S.mg (S.vs r - S.vs t1))))),(10,(.val (.int .i64 i))),(11,(.val (.int .i64 (d+(2:Int))))),(12,(.val (.int .i64 0)))], [(.row (.cells [(.val (.string t0)),(.val (.string t1)),(.val (.string t2)),(.val (.string t3)),(.val (.string t4)),(.val (.string t5)),(.val (.string t6)),(.val (.string t7))]) 176 .live),(.row (.ints .u8 zs) 5 .live)]) else none) else none) else some (.normal,slots 76 [(0,(.val (.string a))),(6,(.ptr 0 0)),(8,(.sl false 5 1 0 zs.length)),(9,(.val (.string r))),(10,(.val (.int .i64 i))),(11,(.val (.int .i64 d))),(12,(.val (.int .i64 0)))], [(.row (.cells [(.val (.string t0)),(.val (.string t1)),(.val (.string t2)),(.val (.string t3)),(.val (.string t4)),(.val (.string t5)),(.val (.string t6)),(.val (.string t7))]) 176 .live),(.row (.ints .u8 zs) 5 .live)])) else none):=by kernel_rfl
theorem dm_r0 (S:Sg) (a:ByteArray) (zs:List Int) (r:ByteArray) (i d:Int) (t0 t1 t2 t3 t4 t5 t6 t7:ByteArray):roundA Tryz.prog ⟨CDm S,Kall,noL⟩ 161 [0,6,8,9,10,11,12] (lb 161 p_dm) (false :: p_dm) (sh_dm a zs r i d (0) t0 t1 t2 t3 t4 t5 t6 t7) (hp_dm a zs r i d (0) t0 t1 t2 t3 t4 t5 t6 t7)=
  (bif strEq r (S.mg (S.vs r))&&strEq t0 (S.mg (S.vs t0)) then (bif decide ((0:Int)≤S.cmp (S.vs r) (S.vs t0)) then (bif S.ok r&&S.ok t0&&decide (S.vs t0≤S.vs r) then (bif inR IntKind.i64 (d+(1:Int)) then some (.normal,slots 76 [(0,(.val (.string a))),(6,(.ptr 0 0)),(8,(.sl false 5 1 0 zs.length)),(9,(.val (.string (S.mg (S.vs r - S.vs t0))))),(10,(.val (.int .i64 i))),(11,(.val (.int .i64 (d+(1:Int))))),(12,(.val (.int .i64 (-1))))], [(.row (.cells [(.val (.string t0)),(.val (.string t1)),(.val (.string t2)),(.val (.string t3)),(.val (.string t4)),(.val (.string t5)),(.val (.string t6)),(.val (.string t7))]) 176 .live),(.row (.ints .u8 zs) 5 .live)]) else none) else none) else some (.normal,slots 76 [(0,(.val (.string a))),(6,(.ptr 0 0)),(8,(.sl false 5 1 0 zs.length)),(9,(.val (.string r))),(10,(.val (.int .i64 i))),(11,(.val (.int .i64 d))),(12,(.val (.int .i64 (-1))))], [(.row (.cells [(.val (.string t0)),(.val (.string t1)),(.val (.string t2)),(.val (.string t3)),(.val (.string t4)),(.val (.string t5)),(.val (.string t6)),(.val (.string t7))]) 176 .live),(.row (.ints .u8 zs) 5 .live)])) else none):=by kernel_rfl
theorem dm_rx (S:Sg) (a:ByteArray) (zs:List Int) (r:ByteArray) (i d:Int) (t0 t1 t2 t3 t4 t5 t6 t7:ByteArray):roundA Tryz.prog ⟨CDm S,Kall,noL⟩ 161 [0,6,8,9,10,11,12] (lb 161 p_dm) (false :: p_dm) (sh_dm a zs r i d (-1) t0 t1 t2 t3 t4 t5 t6 t7) (hp_dm a zs r i d (-1) t0 t1 t2 t3 t4 t5 t6 t7)=
  (some ((.exit 4),slots 76 [(0,(.val (.string a))),(6,(.ptr 0 0)),(8,(.sl false 5 1 0 zs.length)),(9,(.val (.string r))),(10,(.val (.int .i64 i))),(11,(.val (.int .i64 d))),(12,(.val (.int .i64 (-1))))], [(.row (.cells [(.val (.string t0)),(.val (.string t1)),(.val (.string t2)),(.val (.string t3)),(.val (.string t4)),(.val (.string t5)),(.val (.string t6)),(.val (.string t7))]) 176 .live),(.row (.ints .u8 zs) 5 .live)])):=by kernel_rfl
theorem mag_mg (n:Nat):strEq (magOf n) (sg0.mg n)=true:=strEq_self _
theorem vs_magOf (n:Nat):sg0.vs (magOf n)=n:=vS_magOf n
theorem size_mag (n:Nat):(magOf n).size=bs n:=size_magOf n
theorem ok_mag {n:Nat} (h:bs n≤8796093022208):sg0.ok (magOf n)=true:=decide_eq_true (by rw [size_mag];exact h)
theorem cmp_ge (a b:Nat):0≤sg0.cmp a b↔b≤a:=by
 show 0≤cmpN a b↔_
 unfold cmpN
 split <;> (try split) <;> omega
def dmR (M R:Nat):Nat:=if M≤R then R - M else R
def dmD (m M R d:Nat):Nat:=if M≤R then d+m else d
theorem dm_s7 (a:ByteArray) (zs:List Int) (i:Int) (t0 t1 t2 t3 t4 t5 t6 t7:ByteArray) (R M d:Nat) (ht:t7=magOf M) (hM:bs M≤8796093022208) (hR:bs R≤8796093022208) (hd:d≤1000):
  V.Ends Tryz.prog false 0 0 (lb 161 p_dm) (sh_dm a zs (magOf R) i (d:Int) 7 t0 t1 t2 t3 t4 t5 t6 t7) (hp_dm a zs (magOf R) i (d:Int) 7 t0 t1 t2 t3 t4 t5 t6 t7) .normal
   (sh_dm a zs (magOf (dmR M R)) i ((dmD 128 M R d:Nat):Int) (7 - 1) t0 t1 t2 t3 t4 t5 t6 t7) (hp_dm a zs (magOf (dmR M R)) i ((dmD 128 M R d:Nat):Int) (7 - 1) t0 t1 t2 t3 t4 t5 t6 t7):=by
 subst ht
 refine step_dm ?_
 rw [dm_r7]
 simp only [mag_mg,vs_magOf]
 rw [ok_mag hR,ok_mag hM]
 unfold dmR dmD
 by_cases h:M≤R
 ·rw [if_pos h,if_pos h,dT ((cmp_ge R M).2 h),dT h,i64T (z:=(d:Int)+128) (by omega),show (d:Int)+128=((d+128:Nat):Int) by omega]
  rfl
 ·rw [if_neg h,if_neg h,dF (fun h'=>h ((cmp_ge R M).1 h'))]
  rfl
theorem dm_s6 (a:ByteArray) (zs:List Int) (i:Int) (t0 t1 t2 t3 t4 t5 t6 t7:ByteArray) (R M d:Nat) (ht:t6=magOf M) (hM:bs M≤8796093022208) (hR:bs R≤8796093022208) (hd:d≤1000):
  V.Ends Tryz.prog false 0 0 (lb 161 p_dm) (sh_dm a zs (magOf R) i (d:Int) 6 t0 t1 t2 t3 t4 t5 t6 t7) (hp_dm a zs (magOf R) i (d:Int) 6 t0 t1 t2 t3 t4 t5 t6 t7) .normal
   (sh_dm a zs (magOf (dmR M R)) i ((dmD 64 M R d:Nat):Int) (6 - 1) t0 t1 t2 t3 t4 t5 t6 t7) (hp_dm a zs (magOf (dmR M R)) i ((dmD 64 M R d:Nat):Int) (6 - 1) t0 t1 t2 t3 t4 t5 t6 t7):=by
 subst ht
 refine step_dm ?_
 rw [dm_r6]
 simp only [mag_mg,vs_magOf]
 rw [ok_mag hR,ok_mag hM]
 unfold dmR dmD
 by_cases h:M≤R
 ·rw [if_pos h,if_pos h,dT ((cmp_ge R M).2 h),dT h,i64T (z:=(d:Int)+64) (by omega),show (d:Int)+64=((d+64:Nat):Int) by omega]
  rfl
 ·rw [if_neg h,if_neg h,dF (fun h'=>h ((cmp_ge R M).1 h'))]
  rfl
theorem dm_s5 (a:ByteArray) (zs:List Int) (i:Int) (t0 t1 t2 t3 t4 t5 t6 t7:ByteArray) (R M d:Nat) (ht:t5=magOf M) (hM:bs M≤8796093022208) (hR:bs R≤8796093022208) (hd:d≤1000):
  V.Ends Tryz.prog false 0 0 (lb 161 p_dm) (sh_dm a zs (magOf R) i (d:Int) 5 t0 t1 t2 t3 t4 t5 t6 t7) (hp_dm a zs (magOf R) i (d:Int) 5 t0 t1 t2 t3 t4 t5 t6 t7) .normal
   (sh_dm a zs (magOf (dmR M R)) i ((dmD 32 M R d:Nat):Int) (5 - 1) t0 t1 t2 t3 t4 t5 t6 t7) (hp_dm a zs (magOf (dmR M R)) i ((dmD 32 M R d:Nat):Int) (5 - 1) t0 t1 t2 t3 t4 t5 t6 t7):=by
 subst ht
 refine step_dm ?_
 rw [dm_r5]
 simp only [mag_mg,vs_magOf]
 rw [ok_mag hR,ok_mag hM]
 unfold dmR dmD
 by_cases h:M≤R
 ·rw [if_pos h,if_pos h,dT ((cmp_ge R M).2 h),dT h,i64T (z:=(d:Int)+32) (by omega),show (d:Int)+32=((d+32:Nat):Int) by omega]
  rfl
 ·rw [if_neg h,if_neg h,dF (fun h'=>h ((cmp_ge R M).1 h'))]
  rfl
theorem dm_s4 (a:ByteArray) (zs:List Int) (i:Int) (t0 t1 t2 t3 t4 t5 t6 t7:ByteArray) (R M d:Nat) (ht:t4=magOf M) (hM:bs M≤8796093022208) (hR:bs R≤8796093022208) (hd:d≤1000):
  V.Ends Tryz.prog false 0 0 (lb 161 p_dm) (sh_dm a zs (magOf R) i (d:Int) 4 t0 t1 t2 t3 t4 t5 t6 t7) (hp_dm a zs (magOf R) i (d:Int) 4 t0 t1 t2 t3 t4 t5 t6 t7) .normal
   (sh_dm a zs (magOf (dmR M R)) i ((dmD 16 M R d:Nat):Int) (4 - 1) t0 t1 t2 t3 t4 t5 t6 t7) (hp_dm a zs (magOf (dmR M R)) i ((dmD 16 M R d:Nat):Int) (4 - 1) t0 t1 t2 t3 t4 t5 t6 t7):=by
 subst ht
 refine step_dm ?_
 rw [dm_r4]
 simp only [mag_mg,vs_magOf]
 rw [ok_mag hR,ok_mag hM]
 unfold dmR dmD
 by_cases h:M≤R
 ·rw [if_pos h,if_pos h,dT ((cmp_ge R M).2 h),dT h,i64T (z:=(d:Int)+16) (by omega),show (d:Int)+16=((d+16:Nat):Int) by omega]
  rfl
 ·rw [if_neg h,if_neg h,dF (fun h'=>h ((cmp_ge R M).1 h'))]
  rfl
theorem dm_s3 (a:ByteArray) (zs:List Int) (i:Int) (t0 t1 t2 t3 t4 t5 t6 t7:ByteArray) (R M d:Nat) (ht:t3=magOf M) (hM:bs M≤8796093022208) (hR:bs R≤8796093022208) (hd:d≤1000):
  V.Ends Tryz.prog false 0 0 (lb 161 p_dm) (sh_dm a zs (magOf R) i (d:Int) 3 t0 t1 t2 t3 t4 t5 t6 t7) (hp_dm a zs (magOf R) i (d:Int) 3 t0 t1 t2 t3 t4 t5 t6 t7) .normal
   (sh_dm a zs (magOf (dmR M R)) i ((dmD 8 M R d:Nat):Int) (3 - 1) t0 t1 t2 t3 t4 t5 t6 t7) (hp_dm a zs (magOf (dmR M R)) i ((dmD 8 M R d:Nat):Int) (3 - 1) t0 t1 t2 t3 t4 t5 t6 t7):=by
 subst ht
 refine step_dm ?_
 rw [dm_r3]
 simp only [mag_mg,vs_magOf]
 rw [ok_mag hR,ok_mag hM]
 unfold dmR dmD
 by_cases h:M≤R
 ·rw [if_pos h,if_pos h,dT ((cmp_ge R M).2 h),dT h,i64T (z:=(d:Int)+8) (by omega),show (d:Int)+8=((d+8:Nat):Int) by omega]
  rfl
 ·rw [if_neg h,if_neg h,dF (fun h'=>h ((cmp_ge R M).1 h'))]
  rfl
theorem dm_s2 (a:ByteArray) (zs:List Int) (i:Int) (t0 t1 t2 t3 t4 t5 t6 t7:ByteArray) (R M d:Nat) (ht:t2=magOf M) (hM:bs M≤8796093022208) (hR:bs R≤8796093022208) (hd:d≤1000):
  V.Ends Tryz.prog false 0 0 (lb 161 p_dm) (sh_dm a zs (magOf R) i (d:Int) 2 t0 t1 t2 t3 t4 t5 t6 t7) (hp_dm a zs (magOf R) i (d:Int) 2 t0 t1 t2 t3 t4 t5 t6 t7) .normal
   (sh_dm a zs (magOf (dmR M R)) i ((dmD 4 M R d:Nat):Int) (2 - 1) t0 t1 t2 t3 t4 t5 t6 t7) (hp_dm a zs (magOf (dmR M R)) i ((dmD 4 M R d:Nat):Int) (2 - 1) t0 t1 t2 t3 t4 t5 t6 t7):=by
 subst ht
 refine step_dm ?_
 rw [dm_r2]
 simp only [mag_mg,vs_magOf]
 rw [ok_mag hR,ok_mag hM]
 unfold dmR dmD
 by_cases h:M≤R
 ·rw [if_pos h,if_pos h,dT ((cmp_ge R M).2 h),dT h,i64T (z:=(d:Int)+4) (by omega),show (d:Int)+4=((d+4:Nat):Int) by omega]
  rfl
 ·rw [if_neg h,if_neg h,dF (fun h'=>h ((cmp_ge R M).1 h'))]
  rfl
theorem dm_s1 (a:ByteArray) (zs:List Int) (i:Int) (t0 t1 t2 t3 t4 t5 t6 t7:ByteArray) (R M d:Nat) (ht:t1=magOf M) (hM:bs M≤8796093022208) (hR:bs R≤8796093022208) (hd:d≤1000):
  V.Ends Tryz.prog false 0 0 (lb 161 p_dm) (sh_dm a zs (magOf R) i (d:Int) 1 t0 t1 t2 t3 t4 t5 t6 t7) (hp_dm a zs (magOf R) i (d:Int) 1 t0 t1 t2 t3 t4 t5 t6 t7) .normal
   (sh_dm a zs (magOf (dmR M R)) i ((dmD 2 M R d:Nat):Int) (1 - 1) t0 t1 t2 t3 t4 t5 t6 t7) (hp_dm a zs (magOf (dmR M R)) i ((dmD 2 M R d:Nat):Int) (1 - 1) t0 t1 t2 t3 t4 t5 t6 t7):=by
 subst ht
 refine step_dm ?_
 rw [dm_r1]
 simp only [mag_mg,vs_magOf]
 rw [ok_mag hR,ok_mag hM]
 unfold dmR dmD
 by_cases h:M≤R
 ·rw [if_pos h,if_pos h,dT ((cmp_ge R M).2 h),dT h,i64T (z:=(d:Int)+2) (by omega),show (d:Int)+2=((d+2:Nat):Int) by omega]
  rfl
 ·rw [if_neg h,if_neg h,dF (fun h'=>h ((cmp_ge R M).1 h'))]
  rfl
theorem dm_s0 (a:ByteArray) (zs:List Int) (i:Int) (t0 t1 t2 t3 t4 t5 t6 t7:ByteArray) (R M d:Nat) (ht:t0=magOf M) (hM:bs M≤8796093022208) (hR:bs R≤8796093022208) (hd:d≤1000):
  V.Ends Tryz.prog false 0 0 (lb 161 p_dm) (sh_dm a zs (magOf R) i (d:Int) 0 t0 t1 t2 t3 t4 t5 t6 t7) (hp_dm a zs (magOf R) i (d:Int) 0 t0 t1 t2 t3 t4 t5 t6 t7) .normal
   (sh_dm a zs (magOf (dmR M R)) i ((dmD 1 M R d:Nat):Int) (0 - 1) t0 t1 t2 t3 t4 t5 t6 t7) (hp_dm a zs (magOf (dmR M R)) i ((dmD 1 M R d:Nat):Int) (0 - 1) t0 t1 t2 t3 t4 t5 t6 t7):=by
 subst ht
 refine step_dm ?_
 rw [dm_r0]
 simp only [mag_mg,vs_magOf]
 rw [ok_mag hR,ok_mag hM]
 unfold dmR dmD
 by_cases h:M≤R
 ·rw [if_pos h,if_pos h,dT ((cmp_ge R M).2 h),dT h,i64T (z:=(d:Int)+1) (by omega),show (d:Int)+1=((d+1:Nat):Int) by omega]
  rfl
 ·rw [if_neg h,if_neg h,dF (fun h'=>h ((cmp_ge R M).1 h'))]
  rfl
theorem dm_arith (m B R d R0:Nat) (h:R0=d*B+R) (h2:R < 2*(m*B)):R0=dmD m (m*B) R d*B+dmR (m*B) R∧dmR (m*B) R < m*B:=by
 unfold dmD dmR
 by_cases h1:m*B≤R
 ·rw [if_pos h1,if_pos h1,Nat.add_mul];omega
 ·rw [if_neg h1,if_neg h1];omega
theorem dmD_le (m M R d k:Nat) (h:d≤k):dmD m M R d≤k+m:=by unfold dmD;split <;> omega
theorem dmR_le (M R:Nat):dmR M R≤R:=by unfold dmR;split <;> omega
def pre_dm (a:ByteArray) (zs:List Int) (r:ByteArray) (i d k:Int) (t0 t1 t2 t3 t4 t5 t6 t7:ByteArray):Prop:=∃ R B:Nat,r=magOf R∧d=0∧k=7∧R < 256*B∧bs (256*B)≤8796093022208∧
 t0=magOf (1*B)∧t1=magOf (2*B)∧t2=magOf (4*B)∧t3=magOf (8*B)∧t4=magOf (16*B)∧t5=magOf (32*B)∧t6=magOf (64*B)∧t7=magOf (128*B)
def post_dm (a:ByteArray) (zs:List Int) (r:ByteArray) (i d k:Int) (t0 t1 t2 t3 t4 t5 t6 t7:ByteArray) (ρ:ByteArray×Int×Int):Prop:=ρ.1=magOf (vS r % vS t0)∧ρ.2.1=((vS r / vS t0:Nat):Int)
theorem loop_dm (a:ByteArray) (zs:List Int) (r:ByteArray) (i d k:Int) (t0 t1 t2 t3 t4 t5 t6 t7:ByteArray) (h:pre_dm a zs r i d k t0 t1 t2 t3 t4 t5 t6 t7):∃ ρ:ByteArray×Int×Int,
  LoopTo Tryz.prog (lb 161 p_dm) (sh_dm a zs r i d k t0 t1 t2 t3 t4 t5 t6 t7) (hp_dm a zs r i d k t0 t1 t2 t3 t4 t5 t6 t7) (.exit 4) (sh_dm a zs ρ.1 i ρ.2.1 ρ.2.2 t0 t1 t2 t3 t4 t5 t6 t7) (hp_dm a zs ρ.1 i ρ.2.1 ρ.2.2 t0 t1 t2 t3 t4 t5 t6 t7)∧post_dm a zs r i d k t0 t1 t2 t3 t4 t5 t6 t7 ρ:=by
 obtain ⟨R,B,rfl,rfl,rfl,h1,h2,h3,h4,h5,h6,h7,h8,h9,h10⟩:=h
 obtain ⟨e7,l7⟩:=dm_arith 128 B R 0 R (by omega) (by omega)
 have d7:=dmD_le 128 (128*B) R 0 0 (Nat.le_refl _)
 have c7:=dmR_le (128*B) R
 generalize hR7:dmR (128*B) R=R7 at*
 generalize hD7:dmD 128 (128*B) R 0=D7 at*
 obtain ⟨e6,l6⟩:=dm_arith 64 B R7 D7 R e7 (by omega)
 have d6:=dmD_le 64 (64*B) R7 D7 _ d7
 generalize hR6:dmR (64*B) R7=R6 at*
 generalize hD6:dmD 64 (64*B) R7 D7=D6 at*
 obtain ⟨e5,l5⟩:=dm_arith 32 B R6 D6 R e6 (by omega)
 have d5:=dmD_le 32 (32*B) R6 D6 _ d6
 generalize hR5:dmR (32*B) R6=R5 at*
 generalize hD5:dmD 32 (32*B) R6 D6=D5 at*
 obtain ⟨e4,l4⟩:=dm_arith 16 B R5 D5 R e5 (by omega)
 have d4:=dmD_le 16 (16*B) R5 D5 _ d5
 generalize hR4:dmR (16*B) R5=R4 at*
 generalize hD4:dmD 16 (16*B) R5 D5=D4 at*
 obtain ⟨e3,l3⟩:=dm_arith 8 B R4 D4 R e4 (by omega)
 have d3:=dmD_le 8 (8*B) R4 D4 _ d4
 generalize hR3:dmR (8*B) R4=R3 at*
 generalize hD3:dmD 8 (8*B) R4 D4=D3 at*
 obtain ⟨e2,l2⟩:=dm_arith 4 B R3 D3 R e3 (by omega)
 have d2:=dmD_le 4 (4*B) R3 D3 _ d3
 generalize hR2:dmR (4*B) R3=R2 at*
 generalize hD2:dmD 4 (4*B) R3 D3=D2 at*
 obtain ⟨e1,l1⟩:=dm_arith 2 B R2 D2 R e2 (by omega)
 have d1:=dmD_le 2 (2*B) R2 D2 _ d2
 generalize hR1:dmR (2*B) R2=R1 at*
 generalize hD1:dmD 2 (2*B) R2 D2=D1 at*
 obtain ⟨e0,l0⟩:=dm_arith 1 B R1 D1 R e1 (by omega)
 have d0:=dmD_le 1 (1*B) R1 D1 _ d1
 generalize hR0:dmR (1*B) R1=R0 at*
 generalize hD0:dmD 1 (1*B) R1 D1=D0 at*
 have big:∀ n:Nat,n≤256*B→bs n≤8796093022208:=fun n hn=>Nat.le_trans (bs_mono hn) h2
 refine ⟨(magOf R0,(D0:Int), -1), ?_, ?_⟩
 ·have s7:=dm_s7 a zs i t0 t1 t2 t3 t4 t5 t6 t7 R (128*B) 0 h10 (big _ (by omega)) (big _ (by omega)) (by omega)
  have s6:=dm_s6 a zs i t0 t1 t2 t3 t4 t5 t6 t7 R7 (64*B) D7 h9 (big _ (by omega)) (big _ (by omega)) (by omega)
  have s5:=dm_s5 a zs i t0 t1 t2 t3 t4 t5 t6 t7 R6 (32*B) D6 h8 (big _ (by omega)) (big _ (by omega)) (by omega)
  have s4:=dm_s4 a zs i t0 t1 t2 t3 t4 t5 t6 t7 R5 (16*B) D5 h7 (big _ (by omega)) (big _ (by omega)) (by omega)
  have s3:=dm_s3 a zs i t0 t1 t2 t3 t4 t5 t6 t7 R4 (8*B) D4 h6 (big _ (by omega)) (big _ (by omega)) (by omega)
  have s2:=dm_s2 a zs i t0 t1 t2 t3 t4 t5 t6 t7 R3 (4*B) D3 h5 (big _ (by omega)) (big _ (by omega)) (by omega)
  have s1:=dm_s1 a zs i t0 t1 t2 t3 t4 t5 t6 t7 R2 (2*B) D2 h4 (big _ (by omega)) (big _ (by omega)) (by omega)
  have s0:=dm_s0 a zs i t0 t1 t2 t3 t4 t5 t6 t7 R1 (1*B) D1 h3 (big _ (by omega)) (big _ (by omega)) (by omega)
  rw [hR7,hD7] at s7
  rw [hR6,hD6] at s6
  rw [hR5,hD5] at s5
  rw [hR4,hD4] at s4
  rw [hR3,hD3] at s3
  rw [hR2,hD2] at s2
  rw [hR1,hD1] at s1
  rw [hR0,hD0] at s0
  refine .more s7 (.more s6 (.more s5 (.more s4 (.more s3 (.more s2 (.more s1 (.more s0 (.last (step_dm ?_) (by intro h;cases h)))))))))
  exact dm_rx sg0 a zs (magOf R0) i (D0:Int) t0 t1 t2 t3 t4 t5 t6 t7
 ·have hv1:vS (magOf R)=R:=vs_magOf R
  have hv2:vS t0=B:=by rw [h3];exact (vs_magOf (1*B)).trans (Nat.one_mul B)
  unfold post_dm
  rw [hv1,hv2]
  have e0':R0+B*D0=R:=by rw [Nat.mul_comm B D0];omega
  have hB:0 < B:=by omega
  have hu:=(Nat.div_mod_unique (a:=R) (b:=B) (c:=R0) (d:=D0) hB).2 ⟨e0',by omega⟩
  rw [hu.1,hu.2]
  exact ⟨rfl,rfl⟩
def told_dm (κ:ByteArray→List Int→ByteArray→Int→Int→Int→ByteArray→ByteArray→ByteArray→ByteArray→ByteArray→ByteArray→ByteArray→ByteArray→Bool) (φ:ByteArray→List Int→ByteArray→Int→Int→Int→ByteArray→ByteArray→ByteArray→ByteArray→ByteArray→ByteArray→ByteArray→ByteArray→ByteArray×Int×Int) (T:List AV) (H:Hp):Option (Bool×Ex×List AV×Hp):=
 match lget T 0,lget T 6,lget T 8,lget T 9,lget T 10,lget T 11,lget T 12,H with
 | .val (.string a), .ptr 0 0, .sl false 5 1 0 m_zs, .val (.string r), .val (.int .i64 i), .val (.int .i64 d), .val (.int .i64 k), [.row (.cells [.val (.string t0), .val (.string t1), .val (.string t2), .val (.string t3), .val (.string t4), .val (.string t5), .val (.string t6), .val (.string t7)]) 176 .live, .row (.ints .u8 zs) 5 .live]=>bif T.length==76 then some (decide (m_zs=zs.length)&&κ a zs r i d k t0 t1 t2 t3 t4 t5 t6 t7, .exit 4,sh_dm a zs ((φ a zs r i d k t0 t1 t2 t3 t4 t5 t6 t7).1) i ((φ a zs r i d k t0 t1 t2 t3 t4 t5 t6 t7).2.1) ((φ a zs r i d k t0 t1 t2 t3 t4 t5 t6 t7).2.2) t0 t1 t2 t3 t4 t5 t6 t7,hp_dm a zs ((φ a zs r i d k t0 t1 t2 t3 t4 t5 t6 t7).1) i ((φ a zs r i d k t0 t1 t2 t3 t4 t5 t6 t7).2.1) ((φ a zs r i d k t0 t1 t2 t3 t4 t5 t6 t7).2.2) t0 t1 t2 t3 t4 t5 t6 t7) else none
 | _,_,_,_,_,_,_,_=>none
abbrev KT_dm:Type:=ByteArray→List Int→ByteArray→Int→Int→Int→ByteArray→ByteArray→ByteArray→ByteArray→ByteArray→ByteArray→ByteArray→ByteArray→Bool
abbrev FT_dm:Type:=ByteArray→List Int→ByteArray→Int→Int→Int→ByteArray→ByteArray→ByteArray→ByteArray→ByteArray→ByteArray→ByteArray→ByteArray→ByteArray×Int×Int
def LL_dm (κ:KT_dm) (φ:FT_dm) (L:LTab):LTab:=addLn 0 161 p_dm [0,6,8,9,10,11,12] (told_dm κ φ) L
def phi_dm (a:ByteArray) (zs:List Int) (r:ByteArray) (i:Int) (d:Int) (k:Int) (t0:ByteArray) (t1:ByteArray) (t2:ByteArray) (t3:ByteArray) (t4:ByteArray) (t5:ByteArray) (t6:ByteArray) (t7:ByteArray):ByteArray×Int×Int:=Classical.epsilon fun ρ=>LoopTo Tryz.prog (lb 161 p_dm) (sh_dm a zs r i d k t0 t1 t2 t3 t4 t5 t6 t7) (hp_dm a zs r i d k t0 t1 t2 t3 t4 t5 t6 t7) (.exit 4) (sh_dm a zs (ρ.1) i (ρ.2.1) (ρ.2.2) t0 t1 t2 t3 t4 t5 t6 t7) (hp_dm a zs (ρ.1) i (ρ.2.1) (ρ.2.2) t0 t1 t2 t3 t4 t5 t6 t7)∧post_dm a zs r i d k t0 t1 t2 t3 t4 t5 t6 t7 ρ
theorem phi_dm_spec (a:ByteArray) (zs:List Int) (r:ByteArray) (i:Int) (d:Int) (k:Int) (t0:ByteArray) (t1:ByteArray) (t2:ByteArray) (t3:ByteArray) (t4:ByteArray) (t5:ByteArray) (t6:ByteArray) (t7:ByteArray) (h:pre_dm a zs r i d k t0 t1 t2 t3 t4 t5 t6 t7):LoopTo Tryz.prog (lb 161 p_dm) (sh_dm a zs r i d k t0 t1 t2 t3 t4 t5 t6 t7) (hp_dm a zs r i d k t0 t1 t2 t3 t4 t5 t6 t7) (.exit 4) (sh_dm a zs ((phi_dm a zs r i d k t0 t1 t2 t3 t4 t5 t6 t7).1) i ((phi_dm a zs r i d k t0 t1 t2 t3 t4 t5 t6 t7).2.1) ((phi_dm a zs r i d k t0 t1 t2 t3 t4 t5 t6 t7).2.2) t0 t1 t2 t3 t4 t5 t6 t7) (hp_dm a zs ((phi_dm a zs r i d k t0 t1 t2 t3 t4 t5 t6 t7).1) i ((phi_dm a zs r i d k t0 t1 t2 t3 t4 t5 t6 t7).2.1) ((phi_dm a zs r i d k t0 t1 t2 t3 t4 t5 t6 t7).2.2) t0 t1 t2 t3 t4 t5 t6 t7)∧post_dm a zs r i d k t0 t1 t2 t3 t4 t5 t6 t7 (phi_dm a zs r i d k t0 t1 t2 t3 t4 t5 t6 t7):=Classical.epsilon_spec (loop_dm a zs r i d k t0 t1 t2 t3 t4 t5 t6 t7 h)
def cond_dm (a:ByteArray) (zs:List Int) (r:ByteArray) (i:Int) (d:Int) (k:Int) (t0:ByteArray) (t1:ByteArray) (t2:ByteArray) (t3:ByteArray) (t4:ByteArray) (t5:ByteArray) (t6:ByteArray) (t7:ByteArray):Bool:= @decide (pre_dm a zs r i d k t0 t1 t2 t3 t4 t5 t6 t7) (Classical.propDecidable _)
theorem cond_dm_eq (a:ByteArray) (zs:List Int) (r:ByteArray) (i:Int) (d:Int) (k:Int) (t0:ByteArray) (t1:ByteArray) (t2:ByteArray) (t3:ByteArray) (t4:ByteArray) (t5:ByteArray) (t6:ByteArray) (t7:ByteArray) (h:pre_dm a zs r i d k t0 t1 t2 t3 t4 t5 t6 t7):cond_dm a zs r i d k t0 t1 t2 t3 t4 t5 t6 t7=true:= @decide_eq_true _ (Classical.propDecidable _) h
theorem told_dm_ok (T:List AV) (H:Hp) (e:Ex) (T1:List AV) (H1:Hp) (h:told_dm cond_dm phi_dm T H=some (true,e,T1,H1)):V.Ends Tryz.prog false 0 0 (.loop (lb 161 p_dm)) T H e T1 H1:=by
 unfold told_dm at h
 split at h
 ·rename_i a m_zs r i d k t0 t1 t2 t3 t4 t5 t6 t7 zs h0 h6 h8 h9 h10 h11 h12
  rw [Bool.cond_eq_ite] at h
  split at h
  ·rename_i hlen
   rw [beq_iff_eq] at hlen
   simp only [Option.some.injEq,Prod.mk.injEq,Bool.and_eq_true,decide_eq_true_eq] at h
   obtain ⟨⟨k1,k2⟩,rfl,rfl,rfl⟩:=h
   have kc:= @of_decide_eq_true _ (Classical.propDecidable _) k2
   refine Ends.pre (phi_dm_spec a zs r i d k t0 t1 t2 t3 t4 t5 t6 t7 kc).1.ends (fun α B w D ys hr=>slots_rel hlen (fun p hp y hy=> ?_) hr)
   simp only [List.mem_cons,List.not_mem_nil,or_false] at hp
   rcases hp with rfl | rfl | rfl | rfl | rfl | rfl | rfl
   ·rw [h0] at hy;exact hy
   ·rw [h6] at hy;exact hy
   ·rw [h8] at hy;rw [← k1];exact hy
   ·rw [h9] at hy;exact hy
   ·rw [h10] at hy;exact hy
   ·rw [h11] at hy;exact hy
   ·rw [h12] at hy;exact hy
  ·cases h
 ·cases h
theorem LL_dm_ok {L:LTab} (h:LOk Tryz.prog L):LOk Tryz.prog (LL_dm cond_dm phi_dm L):=h.add2n body_dm told_dm_ok
end
end Go.Proofs.YtamcpiicmfielaaGreat.L
namespace Go.Proofs.YtamcpiicmfielaaGreat.L
open Go Go.V Go.RowKit Go.Proofs.YtamcpiicmfielaaGreat.Sp Go.Proofs.YtamcpiicmfielaaGreat.F Go.Proofs.YtamcpiicmfielaaGreatW.PrintWords
open Go.Proofs (Tryz.prog)
noncomputable section
abbrev p_dq:List Bool:= [false,true,false,true,true,true,true,true,true]
def sh_dq (a:ByteArray) (zs:List Int) (r:ByteArray) (i:Int) (t0:ByteArray) (t1:ByteArray) (t2:ByteArray) (t3:ByteArray) (t4:ByteArray) (t5:ByteArray) (t6:ByteArray) (t7:ByteArray):List AV:=slots 76 [(0, .val (.string a)),(6, .ptr 0 0),(8, .sl false 5 1 0 zs.length),(9, .val (.string r)),(10, .val (.int .i64 i))]
def hp_dq (a:ByteArray) (zs:List Int) (r:ByteArray) (i:Int) (t0:ByteArray) (t1:ByteArray) (t2:ByteArray) (t3:ByteArray) (t4:ByteArray) (t5:ByteArray) (t6:ByteArray) (t7:ByteArray):Hp:= [.row (.cells [.val (.string t0), .val (.string t1), .val (.string t2), .val (.string t3), .val (.string t4), .val (.string t5), .val (.string t6), .val (.string t7)]) 176 .live, .row (.ints .u8 zs) 5 .live]
theorem body_dq:subC Tryz.prog 161 p_dq=some (.loop (lb 161 p_dq)):=by kernel_rfl
theorem code_dq:subC Tryz.prog 161 (false :: p_dq)=some (lb 161 p_dq):=by kernel_rfl
theorem round_dq (S:Sg) (κ:KT_dm) (φ:FT_dm) (a:ByteArray) (zs:List Int) (r:ByteArray) (i:Int) (t0:ByteArray) (t1:ByteArray) (t2:ByteArray) (t3:ByteArray) (t4:ByteArray) (t5:ByteArray) (t6:ByteArray) (t7:ByteArray):letI q_1:=(S.mg (S.vs (strCat r (strSub a i.toNat (i+(1:Int)).toNat))));
  (roundA Tryz.prog ⟨CDm S,Kall,LL_dm κ φ noL⟩ 161 [0,6,8,9,10] (lb 161 p_dq) (false :: p_dq) (sh_dq a zs r i t0 t1 t2 t3 t4 t5 t6 t7) (hp_dq a zs r i t0 t1 t2 t3 t4 t5 t6 t7)=(bif decide (i < (↑a.size:Int)) then (bif inR IntKind.i64 (i+(1:Int)) then (bif decide ((0:Int)≤i)&&decide (i≤i+(1:Int))&&decide (i+(1:Int)≤(↑a.size:Int)) then (bif decide (r.size+(strSub a i.toNat (i+(1:Int)).toNat).size≤(9223372036854775807:Nat)) then (bif decide (zs.length=zs.length)&&κ a zs q_1 i (0:Int) (7:Int) t0 t1 t2 t3 t4 t5 t6 t7 then (bif decide ((0:Int)≤i)&&decide (i < (↑zs.length:Int)) then (bif decide ((0:Nat)+i.toNat*(1:Nat) < zs.length) then (bif inR IntKind.i64 (i+(1:Int)) then some (.normal,slots 76 [(0,(.val (.string a))),(6,(.ptr 0 0)),(8,(.sl false 5 1 0 zs.length)),(9,(.val (.string ((φ a zs q_1 i (0:Int) (7:Int) t0 t1 t2 t3 t4 t5 t6 t7).fst)))),(10,(.val (.int .i64 (i+(1:Int)))))], [(.row (.cells [(.val (.string t0)),(.val (.string t1)),(.val (.string t2)),(.val (.string t3)),(.val (.string t4)),(.val (.string t5)),(.val (.string t6)),(.val (.string t7))]) 176 .live),(.row (.ints .u8 (zs.set ((0:Nat)+i.toNat*(1:Nat)) (IntKind.u8.wrap (φ a zs q_1 i (0:Int) (7:Int) t0 t1 t2 t3 t4 t5 t6 t7).snd.fst))) 5 .live)]) else none) else none) else none) else none) else none) else none) else none) else some ((.exit 2),slots 76 [(0,(.val (.string a))),(6,(.ptr 0 0)),(8,(.sl false 5 1 0 zs.length)),(9,(.val (.string r))),(10,(.val (.int .i64 i)))], [(.row (.cells [(.val (.string t0)),(.val (.string t1)),(.val (.string t2)),(.val (.string t3)),(.val (.string t4)),(.val (.string t5)),(.val (.string t6)),(.val (.string t7))]) 176 .live),(.row (.ints .u8 zs) 5 .live)]))):=by kernel_rfl
theorem step_dq {a:ByteArray} {zs:List Int} {r:ByteArray} {i:Int} {t0:ByteArray} {t1:ByteArray} {t2:ByteArray} {t3:ByteArray} {t4:ByteArray} {t5:ByteArray} {t6:ByteArray} {t7:ByteArray} {e:Ex} {T:List AV} {H:Hp} (h:roundA Tryz.prog ⟨CDm sg0,Kall,LL_dm cond_dm phi_dm noL⟩ 161 [0,6,8,9,10] (lb 161 p_dq) (false :: p_dq) (sh_dq a zs r i t0 t1 t2 t3 t4 t5 t6 t7) (hp_dq a zs r i t0 t1 t2 t3 t4 t5 t6 t7)=some (e,T,H)):V.Ends Tryz.prog false 0 0 (lb 161 p_dq) (sh_dq a zs r i t0 t1 t2 t3 t4 t5 t6 t7) (hp_dq a zs r i t0 t1 t2 t3 t4 t5 t6 t7) e T H:=
 round_ends CDm_ok (LL_dm_ok LOk.none).ok mixed code_dq h
def w8 (zs:List Int):List UInt8:=zs.map fun z=>UInt8.ofNat z.toNat
def Times (B:Nat) (t0 t1 t2 t3 t4 t5 t6 t7:ByteArray):Prop:=t0=magOf (1*B)∧t1=magOf (2*B)∧t2=magOf (4*B)∧t3=magOf (8*B)∧t4=magOf (16*B)∧t5=magOf (32*B)∧t6=magOf (64*B)∧t7=magOf (128*B)
theorem vS_step (R:Nat) (a:ByteArray) (i:Nat) (h:i < a.size):vS (strCat (magOf R) (strSub a i (i+1)))=R*256+(byteAt a i).toNat∧(strSub a i (i+1)).size=1:=by
 have hl:i < a.data.toList.length:=by rw [← size_list];exact h
 have e:(strSub a i (i+1)).data.toList= [a.data.toList[i]]:=by
  show ((a.data.toList.drop i).take (i+1 - i))=_
  rw [List.drop_eq_getElem_cons hl,show i+1 - i=1 by omega]
  rfl
 constructor
 ·show vB ((magOf R).data.toList ++ (strSub a i (i+1)).data.toList)=_
  rw [e,vB_snoc]
  have h1:vB (magOf R).data.toList=R:=vS_magOf R
  rw [h1]
  unfold byteAt
  rw [List.getD_eq_getElem?_getD,List.getElem?_eq_getElem hl,Option.getD_some]
  omega
 ·rw [size_list,e];rfl
theorem w8_snoc (zs:List Int) (q:Nat) (hq:q < 256):vB (w8 (zs ++ [(q:Int)]))=vB (w8 zs)*256+q:=by
 unfold w8
 rw [List.map_append,List.map_cons,List.map_nil,vB_snoc,Int.toNat_natCast,UInt8.toNat_ofNat']
 omega
theorem take_set (zs:List Int) (i:Nat) (v:Int) (h:i < zs.length):(zs.set i v).take (i+1)=zs.take i ++ [v]:=by
 rw [List.take_succ_eq_append_getElem (by rw [List.length_set];exact h),List.getElem_set_self,List.take_set_of_le (Nat.le_refl i)]
def pre_dq (a:ByteArray) (zs:List Int) (r:ByteArray) (i:Int) (t0 t1 t2 t3 t4 t5 t6 t7:ByteArray):Prop:=∃ B:Nat,0 < B∧bs (256*B)≤8796093022208∧Times B t0 t1 t2 t3 t4 t5 t6 t7∧i=0∧r=magOf 0∧zs.length=a.size∧a.size≤8796093022208
def post_dq (a:ByteArray) (zs:List Int) (r:ByteArray) (i:Int) (t0 t1 t2 t3 t4 t5 t6 t7:ByteArray) (ρ:List Int×ByteArray×Int):Prop:=ρ.1.length=a.size∧vB (w8 ρ.1)=vS a / vS t0∧ρ.2.1=magOf (vS a % vS t0)
theorem div_digit {A B R c q:Nat} (hB:0 < B) (hR:R=A % B) (hq:q=A / B) (hc:c < 256):(A*256+c) / B=q*256+(R*256+c) / B∧(A*256+c) % B=(R*256+c) % B∧(R*256+c) / B < 256∧R*256+c < 256*B:=by
 have h1:A=B*q+R:=by rw [hq,hR];exact (Nat.div_add_mod A B).symm
 have h2:R < B:=by rw [hR];exact Nat.mod_lt _ hB
 have h3:A*256+c=(R*256+c)+B*(q*256):=by rw [h1,Nat.add_mul,Nat.mul_assoc];omega
 have h4:R*256+c < 256*B:=by omega
 rw [h3,Nat.add_mul_div_left _ _ hB,Nat.add_mul_mod_self_left]
 exact ⟨by omega,rfl,(Nat.div_lt_iff_lt_mul hB).2 h4,h4⟩
theorem dq_go (a:ByteArray) (t0 t1 t2 t3 t4 t5 t6 t7:ByteArray) (B:Nat) (hB:0 < B) (hb:bs (256*B)≤8796093022208) (ht:Times B t0 t1 t2 t3 t4 t5 t6 t7) (ha:a.size≤8796093022208) (k:Nat):∀ (i R:Nat) (zs:List Int),i+k=a.size→zs.length=a.size→R=vB (a.data.toList.take i) % B→vB (w8 (zs.take i))=vB (a.data.toList.take i) / B→
  ∃ ρ:List Int×ByteArray×Int,LoopTo Tryz.prog (lb 161 p_dq) (sh_dq a zs (magOf R) i t0 t1 t2 t3 t4 t5 t6 t7) (hp_dq a zs (magOf R) i t0 t1 t2 t3 t4 t5 t6 t7) (.exit 2) (sh_dq a ρ.1 ρ.2.1 ρ.2.2 t0 t1 t2 t3 t4 t5 t6 t7) (hp_dq a ρ.1 ρ.2.1 ρ.2.2 t0 t1 t2 t3 t4 t5 t6 t7)∧ρ.1.length=a.size∧vB (w8 ρ.1)=vS a / B∧ρ.2.1=magOf (vS a % B):=by
 induction k with
 | zero=>
  intro i R zs hi hz hR hq
  have hi':i=a.size:=by omega
  subst hi'
  have e:a.data.toList.take a.size=a.data.toList:=List.take_of_length_le (by rw [← size_list];exact Nat.le_refl _)
  rw [e] at hR hq
  rw [List.take_of_length_le (by omega)] at hq
  refine ⟨(zs,magOf R,(a.size:Int)), .last (step_dq ?_) (by intro h;cases h),hz,hq,by rw [hR];rfl⟩
  rw [round_dq,dF (show ¬ ((a.size:Int) < a.size) by omega)]
  rfl
 | succ k ih=>
  intro i R zs hi hz hR hq
  have hil:i < a.size:=by omega
  obtain ⟨c1,c2⟩:=vS_step R a i hil
  have hb8:=byteAt_lt a i
  obtain ⟨c,hc⟩:∃ c:Nat,byteAt a i=c:= ⟨(byteAt a i).toNat,by omega⟩
  have hsucc:=vB_take_succ a i hil
  rw [hc] at c1 hb8 hsucc
  rw [Int.toNat_natCast] at c1
  obtain ⟨d1,d2,d3,d4⟩:=div_digit (c:=c) hB hR hq (by omega)
  have hA:vB (a.data.toList.take (i+1))=vB (a.data.toList.take i)*256+c:=by omega
  rw [hq] at d1
  obtain ⟨ρ,k1,k2⟩:=ih (i+1) ((R*256+c) % B) (zs.set i (((R*256+c) / B:Nat):Int)) (by omega) (by rw [List.length_set];exact hz) (by rw [hA,d2]) (by rw [take_set _ _ _ (by omega),w8_snoc _ _ d3,hA,d1,hq])
  refine ⟨ρ, .more (step_dq ?_) k1,k2⟩
  obtain ⟨g0,g1,g2,g3,g4,g5,g6,g7⟩:=ht
  have hp:pre_dm a zs (magOf (R*256+c)) (i:Int) 0 7 t0 t1 t2 t3 t4 t5 t6 t7:= ⟨R*256+c,B,rfl,rfl,rfl,d4,hb,g0,g1,g2,g3,g4,g5,g6,g7⟩
  obtain ⟨_,p1,p2⟩:=phi_dm_spec _ _ _ _ _ _ _ _ _ _ _ _ _ _ hp
  have v0:vS t0=B:=by rw [g0];exact (vs_magOf (1*B)).trans (Nat.one_mul B)
  have v1:vS (magOf (R*256+c))=R*256+c:=vs_magOf _
  rw [v0,v1] at p1 p2
  have hr:=round_dq sg0 cond_dm phi_dm a zs (magOf R) i t0 t1 t2 t3 t4 t5 t6 t7
  have e1:((i:Int)+1).toNat=i+1:=by omega
  have e2:sg0.mg (sg0.vs (strCat (magOf R) (strSub a i (i+1))))=magOf (R*256+c):=by
   have:sg0.vs (strCat (magOf R) (strSub a i (i+1)))=R*256+c:=c1
   rw [this];rfl
  have hRB:R < B:=by rw [hR];exact Nat.mod_lt _ hB
  have hbR:bs R≤8796093022208:=Nat.le_trans (bs_mono (by omega)) hb
  rw [e1,Int.toNat_natCast,e2,p1,p2,Nat.zero_add,Nat.mul_one,cond_dm_eq _ _ _ _ _ _ _ _ _ _ _ _ _ _ hp,dT (show (i:Int) < a.size by omega),i64T (z:=(i:Int)+1) (by omega),dT (show (0:Int)≤i by omega),dT (show (i:Int)≤i+1 by omega),dT (show (i:Int)+1≤a.size by omega),dT (show (magOf R).size+(strSub a i (i+1)).size≤9223372036854775807 by rw [c2,size_mag];omega),dT (show zs.length=zs.length from rfl),dT (show (i:Int) < zs.length by omega),dT (show i < zs.length by omega),u8w,Nat.mod_eq_of_lt d3] at hr
  rw [hr]
  unfold sh_dq hp_dq
  rw [List.length_set]
  rfl
theorem loop_dq (a:ByteArray) (zs:List Int) (r:ByteArray) (i:Int) (t0 t1 t2 t3 t4 t5 t6 t7:ByteArray) (h:pre_dq a zs r i t0 t1 t2 t3 t4 t5 t6 t7):∃ ρ:List Int×ByteArray×Int,
  LoopTo Tryz.prog (lb 161 p_dq) (sh_dq a zs r i t0 t1 t2 t3 t4 t5 t6 t7) (hp_dq a zs r i t0 t1 t2 t3 t4 t5 t6 t7) (.exit 2) (sh_dq a ρ.1 ρ.2.1 ρ.2.2 t0 t1 t2 t3 t4 t5 t6 t7) (hp_dq a ρ.1 ρ.2.1 ρ.2.2 t0 t1 t2 t3 t4 t5 t6 t7)∧post_dq a zs r i t0 t1 t2 t3 t4 t5 t6 t7 ρ:=by
 obtain ⟨B,hB,hb,ht,rfl,rfl,hz,ha⟩:=h
 have v0:vS t0=B:=by rw [ht.1];exact (vs_magOf (1*B)).trans (Nat.one_mul B)
 unfold post_dq
 rw [v0]
 exact dq_go a t0 t1 t2 t3 t4 t5 t6 t7 B hB hb ht ha a.size 0 0 zs (by omega) hz (by rw [List.take_zero];exact (Nat.zero_mod B).symm) (by rw [List.take_zero,List.take_zero];exact (Nat.zero_div B).symm)
def told_dq (κ:ByteArray→List Int→ByteArray→Int→ByteArray→ByteArray→ByteArray→ByteArray→ByteArray→ByteArray→ByteArray→ByteArray→Bool) (φ:ByteArray→List Int→ByteArray→Int→ByteArray→ByteArray→ByteArray→ByteArray→ByteArray→ByteArray→ByteArray→ByteArray→List Int×ByteArray×Int) (T:List AV) (H:Hp):Option (Bool×Ex×List AV×Hp):=
 match lget T 0,lget T 6,lget T 8,lget T 9,lget T 10,H with
 | .val (.string a), .ptr 0 0, .sl false 5 1 0 m_zs, .val (.string r), .val (.int .i64 i), [.row (.cells [.val (.string t0), .val (.string t1), .val (.string t2), .val (.string t3), .val (.string t4), .val (.string t5), .val (.string t6), .val (.string t7)]) 176 .live, .row (.ints .u8 zs) 5 .live]=>bif T.length==76 then some (decide (m_zs=zs.length)&&κ a zs r i t0 t1 t2 t3 t4 t5 t6 t7, .exit 2,sh_dq a ((φ a zs r i t0 t1 t2 t3 t4 t5 t6 t7).1) ((φ a zs r i t0 t1 t2 t3 t4 t5 t6 t7).2.1) ((φ a zs r i t0 t1 t2 t3 t4 t5 t6 t7).2.2) t0 t1 t2 t3 t4 t5 t6 t7,hp_dq a ((φ a zs r i t0 t1 t2 t3 t4 t5 t6 t7).1) ((φ a zs r i t0 t1 t2 t3 t4 t5 t6 t7).2.1) ((φ a zs r i t0 t1 t2 t3 t4 t5 t6 t7).2.2) t0 t1 t2 t3 t4 t5 t6 t7) else none
 | _,_,_,_,_,_=>none
abbrev KT_dq:Type:=ByteArray→List Int→ByteArray→Int→ByteArray→ByteArray→ByteArray→ByteArray→ByteArray→ByteArray→ByteArray→ByteArray→Bool
abbrev FT_dq:Type:=ByteArray→List Int→ByteArray→Int→ByteArray→ByteArray→ByteArray→ByteArray→ByteArray→ByteArray→ByteArray→ByteArray→List Int×ByteArray×Int
def LL_dq (κ:KT_dq) (φ:FT_dq) (L:LTab):LTab:=addLn 0 161 p_dq [0,6,8,9,10] (told_dq κ φ) L
def phi_dq (a:ByteArray) (zs:List Int) (r:ByteArray) (i:Int) (t0:ByteArray) (t1:ByteArray) (t2:ByteArray) (t3:ByteArray) (t4:ByteArray) (t5:ByteArray) (t6:ByteArray) (t7:ByteArray):List Int×ByteArray×Int:=Classical.epsilon fun ρ=>LoopTo Tryz.prog (lb 161 p_dq) (sh_dq a zs r i t0 t1 t2 t3 t4 t5 t6 t7) (hp_dq a zs r i t0 t1 t2 t3 t4 t5 t6 t7) (.exit 2) (sh_dq a (ρ.1) (ρ.2.1) (ρ.2.2) t0 t1 t2 t3 t4 t5 t6 t7) (hp_dq a (ρ.1) (ρ.2.1) (ρ.2.2) t0 t1 t2 t3 t4 t5 t6 t7)∧post_dq a zs r i t0 t1 t2 t3 t4 t5 t6 t7 ρ
theorem phi_dq_spec (a:ByteArray) (zs:List Int) (r:ByteArray) (i:Int) (t0:ByteArray) (t1:ByteArray) (t2:ByteArray) (t3:ByteArray) (t4:ByteArray) (t5:ByteArray) (t6:ByteArray) (t7:ByteArray) (h:pre_dq a zs r i t0 t1 t2 t3 t4 t5 t6 t7):LoopTo Tryz.prog (lb 161 p_dq) (sh_dq a zs r i t0 t1 t2 t3 t4 t5 t6 t7) (hp_dq a zs r i t0 t1 t2 t3 t4 t5 t6 t7) (.exit 2) (sh_dq a ((phi_dq a zs r i t0 t1 t2 t3 t4 t5 t6 t7).1) ((phi_dq a zs r i t0 t1 t2 t3 t4 t5 t6 t7).2.1) ((phi_dq a zs r i t0 t1 t2 t3 t4 t5 t6 t7).2.2) t0 t1 t2 t3 t4 t5 t6 t7) (hp_dq a ((phi_dq a zs r i t0 t1 t2 t3 t4 t5 t6 t7).1) ((phi_dq a zs r i t0 t1 t2 t3 t4 t5 t6 t7).2.1) ((phi_dq a zs r i t0 t1 t2 t3 t4 t5 t6 t7).2.2) t0 t1 t2 t3 t4 t5 t6 t7)∧post_dq a zs r i t0 t1 t2 t3 t4 t5 t6 t7 (phi_dq a zs r i t0 t1 t2 t3 t4 t5 t6 t7):=Classical.epsilon_spec (loop_dq a zs r i t0 t1 t2 t3 t4 t5 t6 t7 h)
def cond_dq (a:ByteArray) (zs:List Int) (r:ByteArray) (i:Int) (t0:ByteArray) (t1:ByteArray) (t2:ByteArray) (t3:ByteArray) (t4:ByteArray) (t5:ByteArray) (t6:ByteArray) (t7:ByteArray):Bool:= @decide (pre_dq a zs r i t0 t1 t2 t3 t4 t5 t6 t7) (Classical.propDecidable _)
theorem cond_dq_eq (a:ByteArray) (zs:List Int) (r:ByteArray) (i:Int) (t0:ByteArray) (t1:ByteArray) (t2:ByteArray) (t3:ByteArray) (t4:ByteArray) (t5:ByteArray) (t6:ByteArray) (t7:ByteArray) (h:pre_dq a zs r i t0 t1 t2 t3 t4 t5 t6 t7):cond_dq a zs r i t0 t1 t2 t3 t4 t5 t6 t7=true:= @decide_eq_true _ (Classical.propDecidable _) h
theorem told_dq_ok (T:List AV) (H:Hp) (e:Ex) (T1:List AV) (H1:Hp) (h:told_dq cond_dq phi_dq T H=some (true,e,T1,H1)):V.Ends Tryz.prog false 0 0 (.loop (lb 161 p_dq)) T H e T1 H1:=by
 unfold told_dq at h
 split at h
 ·rename_i a m_zs r i t0 t1 t2 t3 t4 t5 t6 t7 zs h0 h6 h8 h9 h10
  rw [Bool.cond_eq_ite] at h
  split at h
  ·rename_i hlen
   rw [beq_iff_eq] at hlen
   simp only [Option.some.injEq,Prod.mk.injEq,Bool.and_eq_true,decide_eq_true_eq] at h
   obtain ⟨⟨k1,k2⟩,rfl,rfl,rfl⟩:=h
   have kc:= @of_decide_eq_true _ (Classical.propDecidable _) k2
   refine Ends.pre (phi_dq_spec a zs r i t0 t1 t2 t3 t4 t5 t6 t7 kc).1.ends (fun α B w D ys hr=>slots_rel hlen (fun p hp y hy=> ?_) hr)
   simp only [List.mem_cons,List.not_mem_nil,or_false] at hp
   rcases hp with rfl | rfl | rfl | rfl | rfl
   ·rw [h0] at hy;exact hy
   ·rw [h6] at hy;exact hy
   ·rw [h8] at hy;rw [← k1];exact hy
   ·rw [h9] at hy;exact hy
   ·rw [h10] at hy;exact hy
  ·cases h
 ·cases h
theorem LL_dq_ok {L:LTab} (h:LOk Tryz.prog L):LOk Tryz.prog (LL_dq cond_dq phi_dq L):=h.add2n body_dq told_dq_ok
theorem divm_call (S:Sg) (κ:KT_dq) (φ:FT_dq) (a b:ByteArray):letI q_7:=(S.mg (S.vs b+S.vs b));letI q_3:=(S.mg (S.vs q_7+S.vs q_7));letI q_5:=(S.mg (S.vs q_3+S.vs q_3));letI q_1:=(S.mg (S.vs q_5+S.vs q_5));letI q_8:=(List.replicate (↑a.size:Int).toNat (0:Int));letI q_6:=(S.mg (S.vs q_1+S.vs q_1));letI q_4:=(S.mg (S.vs q_6+S.vs q_6));letI q_2:=(φ a q_8 (ByteArray.mk #[]) (0:Int) b q_7 q_3 q_5 q_1 q_6 q_4 (S.mg (S.vs q_4+S.vs q_4)));
  (callA Tryz.prog ⟨CDm S,Kall,LL_dq κ φ noL⟩ 10 10 161 [.val (.string a), .val (.string b)]=(bif S.ok b&&S.ok b then (bif S.ok q_7&&S.ok q_7 then (bif S.ok q_3&&S.ok q_3 then (bif S.ok q_5&&S.ok q_5 then (bif S.ok q_1&&S.ok q_1 then (bif S.ok q_6&&S.ok q_6 then (bif S.ok q_4&&S.ok q_4 then (bif decide ((↑a.size:Int)≤(↑a.size:Int))&&decide ((1:Int)*(↑a.size:Int)≤(281474976710656:Int))&&decide ((↑a.size:Int)≤(9223372036854775807:Int)) then (bif decide ((↑a.size:Int).toNat=q_8.length)&&κ a q_8 (ByteArray.mk #[]) (0:Int) b q_7 q_3 q_5 q_1 q_6 q_4 (S.mg (S.vs q_4+S.vs q_4)) then (bif decide ((0:Nat)+q_2.fst.length*(1:Nat)≤q_2.fst.length) then some (.tup [(.val (.string (S.mg (S.vs (ofBytes (List.take (q_2.fst.length*(1:Nat)) (List.drop (0:Nat) q_2.fst))))))),(.val (.string (q_2.snd.fst)))]) else none) else none) else none) else none) else none) else none) else none) else none) else none) else none)):=by kernel_rfl
end
end Go.Proofs.YtamcpiicmfielaaGreat.L
namespace Go.Proofs.YtamcpiicmfielaaGreat.L
open Go Go.V Go.RowKit Go.Proofs.YtamcpiicmfielaaGreat.Sp Go.Proofs.YtamcpiicmfielaaGreat.F Go.Proofs.YtamcpiicmfielaaGreatW.PrintWords
open Go.Proofs (Tryz.prog)
noncomputable section
def ok42 (s:ByteArray):Bool:=decide (s.size≤4398046511104)
def tDivM (S:Sg) (args:List AV):Option (Bool×AV):=match args with | [.val (.string s), .val (.string t)]=>some (ok42 s&&ok42 t&&strEq t (S.mg (S.vs t))&&decide (0 < S.vs t), .tup [.val (.string (S.mg (S.vs s / S.vs t))), .val (.string (S.mg (S.vs s % S.vs t)))]) | _=>none
theorem eDivM:Entry Tryz.prog 161 (tDivM sg0):=by
 refine entry_of (E:= ⟨CDm sg0,Kall,LL_dq cond_dq phi_dq noL⟩) (u:=10) (d:=10) CDm_ok (LL_dq_ok LOk.none).ok mixed (by kernel_rfl) (fun args r h=> ?_)
 unfold tDivM at h
 split at h
 ·rename_i a b
  simp only [Option.some.injEq,Prod.mk.injEq,Bool.and_eq_true,decide_eq_true_eq,strEq_iff] at h
  obtain ⟨⟨⟨⟨h1,h2⟩,h3⟩,h4⟩,rfl⟩:=h
  have h1:a.size≤4398046511104:=of_decide_eq_true h1
  have h2:b.size≤4398046511104:=of_decide_eq_true h2
  have hcall:=divm_call sg0 cond_dq phi_dq a b
  have hB:=bs_vs b
  generalize hb:sg0.vs b=B at*
  subst h3
  have vm:∀ n:Nat,sg0.vs (sg0.mg n)=n:=vs_mg
  have a1:B+B=2*B:=by omega
  have a2:2*B+2*B=4*B:=by omega
  have a3:4*B+4*B=8*B:=by omega
  have a4:8*B+8*B=16*B:=by omega
  have a5:16*B+16*B=32*B:=by omega
  have a6:32*B+32*B=64*B:=by omega
  have a7:64*B+64*B=128*B:=by omega
  have hbb:bs (256*B)≤8796093022208:=by
   have:=bs_mul 256 B
   have h2:bs 256≤2:=bs_le (by decide)
   omega
  have okm:∀ n:Nat,n≤256*B→sg0.ok (sg0.mg n)=true:=fun n hn=>ok_mag (Nat.le_trans (bs_mono hn) hbb)
  have hp:pre_dq a (List.replicate a.size 0) (ByteArray.mk #[]) 0 (sg0.mg B) (sg0.mg (2*B)) (sg0.mg (4*B)) (sg0.mg (8*B)) (sg0.mg (16*B)) (sg0.mg (32*B)) (sg0.mg (64*B)) (sg0.mg (128*B)):=
   ⟨B,h4,hbb, ⟨by rw [Nat.one_mul];rfl,rfl,rfl,rfl,rfl,rfl,rfl,rfl⟩,rfl,ms_zero.symm,by simp,by omega⟩
  obtain ⟨_,p1,p2,p3⟩:=phi_dq_spec _ _ _ _ _ _ _ _ _ _ _ _ hp
  have v0:vS (sg0.mg B)=B:=vm B
  rw [v0] at p2 p3
  simp only [vm,a1,a2,a3,a4,a5,a6,a7,Int.toNat_natCast] at hcall
  rw [cond_dq_eq _ _ _ _ _ _ _ _ _ _ _ _ hp,okm B (by omega),okm (2*B) (by omega),okm (4*B) (by omega),okm (8*B) (by omega),okm (16*B) (by omega),okm (32*B) (by omega),okm (64*B) (by omega)] at hcall
  generalize phi_dq a (List.replicate a.size 0) (ByteArray.mk #[]) 0 (sg0.mg B) (sg0.mg (2*B)) (sg0.mg (4*B)) (sg0.mg (8*B)) (sg0.mg (16*B)) (sg0.mg (32*B)) (sg0.mg (64*B)) (sg0.mg (128*B))=ρ at*
  have e1:List.take (ρ.1.length*1) (List.drop 0 ρ.1)=ρ.1:=by rw [List.drop_zero,Nat.mul_one,List.take_length]
  have e2:sg0.vs (ofBytes ρ.1)=sg0.vs a / B:=p2
  have e3:ρ.2.1=sg0.mg (sg0.vs a % B):=p3
  rw [e1,e2,e3,dT (show (a.size:Int)≤a.size by omega),dT (show (1:Int)*a.size≤281474976710656 by omega),dT (show (a.size:Int)≤9223372036854775807 by omega),dT (show a.size=(List.replicate a.size (0:Int)).length by simp),dT (show 0+ρ.1.length*1≤ρ.1.length by omega)] at hcall
  exact hcall
 ·cases h
def CRG (S:Sg):FuncId→List AV→Option (Bool×AV):=addC 161 (tDivM S) (addC 160 (tStrip S) (addC 162 (tRSmall S) (addC 124 (tOf S) noC)))
theorem CRG_ok:Meets Tryz.prog (CRG sg0):=((((meets_none _).add eROf).add eRSmall0).add eRTrim).add eDivM
end
end Go.Proofs.YtamcpiicmfielaaGreat.L
namespace Go.Proofs.YtamcpiicmfielaaGreat.L
open Go Go.V Go.RowKit Go.Proofs.YtamcpiicmfielaaGreat.Sp Go.Proofs.YtamcpiicmfielaaGreat.F Go.Proofs.YtamcpiicmfielaaGreatW.PrintWords
open Go.Proofs (Tryz.prog)
noncomputable section
abbrev p_rg:List Bool:= [false,false,true,true]
def sh_rg (x:ByteArray) (y:ByteArray) (rb:Bool) (rs:ByteArray):List AV:=slots 53 [(4, .ptr 0 0),(5, .val (.string x)),(6, .val (.string y))]
def hp_rg (x:ByteArray) (y:ByteArray) (rb:Bool) (rs:ByteArray):Hp:= [.row (.cells [.val (.bool rb), .val (.string rs)]) 81 .live]
theorem body_rg:subC Tryz.prog 128 p_rg=some (.loop (lb 128 p_rg)):=by kernel_rfl
theorem code_rg:subC Tryz.prog 128 (false :: p_rg)=some (lb 128 p_rg):=by kernel_rfl
theorem round_rg (S:Sg) (x:ByteArray) (y:ByteArray) (rb:Bool) (rs:ByteArray):roundA Tryz.prog ⟨CRG S,Kall,noL⟩ 128 [4,5,6] (lb 128 p_rg) (false :: p_rg) (sh_rg x y rb rs) (hp_rg x y rb rs)=
  (bif !strEq y (ByteArray.mk #[]) then (bif decide ((7:Int) < (↑x.size:Int)) then (bif ok42 x&&ok42 y&&strEq y (S.mg (S.vs y))&&decide ((0:Nat) < S.vs y) then some (.normal,slots 53 [(4,(.ptr 0 0)),(5,(.val (.string y))),(6,(.val (.string (S.mg (S.vs x % S.vs y)))))], [(.row (.cells [(.val (.bool rb)),(.val (.string rs))]) 81 .live)]) else none) else (bif decide ((7:Int) < (↑y.size:Int)) then (bif ok42 x&&ok42 y&&strEq y (S.mg (S.vs y))&&decide ((0:Nat) < S.vs y) then some (.normal,slots 53 [(4,(.ptr 0 0)),(5,(.val (.string y))),(6,(.val (.string (S.mg (S.vs x % S.vs y)))))], [(.row (.cells [(.val (.bool rb)),(.val (.string rs))]) 81 .live)]) else none) else some ((.exit 0),slots 53 [(4,(.ptr 0 0)),(5,(.val (.string x))),(6,(.val (.string y)))], [(.row (.cells [(.val (.bool rb)),(.val (.string rs))]) 81 .live)]))) else some ((.exit 0),slots 53 [(4,(.ptr 0 0)),(5,(.val (.string x))),(6,(.val (.string y)))], [(.row (.cells [(.val (.bool rb)),(.val (.string rs))]) 81 .live)])):=by kernel_rfl
theorem step_rg {x:ByteArray} {y:ByteArray} {rb:Bool} {rs:ByteArray} {e:Ex} {T:List AV} {H:Hp} (h:roundA Tryz.prog ⟨CRG sg0,Kall,noL⟩ 128 [4,5,6] (lb 128 p_rg) (false :: p_rg) (sh_rg x y rb rs) (hp_rg x y rb rs)=some (e,T,H)):V.Ends Tryz.prog false 0 0 (lb 128 p_rg) (sh_rg x y rb rs) (hp_rg x y rb rs) e T H:=
 round_ends CRG_ok loops_none mixed code_rg h
theorem mag_nil (n:Nat):strEq (magOf n) (ByteArray.mk #[])=decide (n=0):=magOf_nil n
theorem ok42_mag {n:Nat} (h:bs n≤4398046511104):ok42 (magOf n)=true:=decide_eq_true (by rw [size_mag];exact h)
theorem bs_small {n:Nat} (h:bs n≤7):n < 72057594037927936:=by
 have:=bs_lt n
 exact Nat.lt_of_lt_of_le this (Nat.pow_le_pow_right (by decide:0 < 256) h)
theorem rg_go (rb:Bool) (rs:ByteArray) (k:Nat):∀ a b:Nat,b=k→bs a≤4398046511104→bs b≤4398046511104→∃ a' b':Nat,LoopTo Tryz.prog (lb 128 p_rg) (sh_rg (magOf a) (magOf b) rb rs) (hp_rg (magOf a) (magOf b) rb rs) (.exit 0) (sh_rg (magOf a') (magOf b') rb rs) (hp_rg (magOf a') (magOf b') rb rs)∧Nat.gcd a' b'=Nat.gcd a b∧(b'=0∨(bs a'≤7∧bs b'≤7)):=by
 induction k using Nat.strongRecOn with
 | _ k ih=>
  intro a b hb h1 h2
  have hr:=round_rg sg0 (magOf a) (magOf b) rb rs
  simp only [mag_nil,vs_magOf,size_mag] at hr
  by_cases h0:b=0
  ·refine ⟨a,b, .last (step_rg ?_) (by intro h;cases h),rfl, .inl h0⟩
   rw [hr,dT h0]
   rfl
  ·by_cases h3:bs a≤7∧bs b≤7
   ·refine ⟨a,b, .last (step_rg ?_) (by intro h;cases h),rfl, .inr h3⟩
    rw [hr,dF h0,dF (show ¬ (7:Int) < (bs a:Nat) by omega),dF (show ¬ (7:Int) < (bs b:Nat) by omega)]
    rfl
   ·have hm:a % b < b:=Nat.mod_lt _ (by omega)
    have hl:=bs_mono (Nat.le_of_lt hm)
    obtain ⟨a',b',k1,k2,k3⟩:=ih (a % b) (by omega) b (a % b) rfl h2 (by omega)
    refine ⟨a',b', .more (step_rg ?_) k1, ?_,k3⟩
    ·have e:strEq (magOf b) (sg0.mg b)=true:=strEq_self _
     rw [hr,dF h0,ok42_mag h1,ok42_mag h2,e,dT (show 0 < b by omega)]
     by_cases h4:(7:Int) < (bs a:Nat)
     ·rw [dT h4];rfl
     ·rw [dF h4,dT (show (7:Int) < (bs b:Nat) by omega)];rfl
    ·rw [k2,Nat.gcd_comm b,← Nat.gcd_rec,Nat.gcd_comm]
def pre_rg (x y:ByteArray) (rb:Bool) (rs:ByteArray):Prop:=∃ a b:Nat,x=magOf a∧y=magOf b∧bs a≤4398046511104∧bs b≤4398046511104
def post_rg (x y:ByteArray) (rb:Bool) (rs:ByteArray) (r:ByteArray×ByteArray):Prop:=∃ a b:Nat,r.1=magOf a∧r.2=magOf b∧Nat.gcd a b=Nat.gcd (vS x) (vS y)∧(b=0∨(bs a≤7∧bs b≤7))
theorem loop_rg (x y:ByteArray) (rb:Bool) (rs:ByteArray) (h:pre_rg x y rb rs):∃ r:ByteArray×ByteArray,LoopTo Tryz.prog (lb 128 p_rg) (sh_rg x y rb rs) (hp_rg x y rb rs) (.exit 0) (sh_rg r.1 r.2 rb rs) (hp_rg r.1 r.2 rb rs)∧post_rg x y rb rs r:=by
 obtain ⟨a,b,rfl,rfl,h1,h2⟩:=h
 obtain ⟨a',b',k1,k2,k3⟩:=rg_go rb rs b a b rfl h1 h2
 refine ⟨(magOf a',magOf b'),k1,a',b',rfl,rfl, ?_,k3⟩
 rw [k2,show vS (magOf a)=a from vs_magOf a,show vS (magOf b)=b from vs_magOf b]
def told_rg (κ:ByteArray→ByteArray→Bool→ByteArray→Bool) (φ:ByteArray→ByteArray→Bool→ByteArray→ByteArray×ByteArray) (T:List AV) (H:Hp):Option (Bool×Ex×List AV×Hp):=
 match lget T 4,lget T 5,lget T 6,H with
 | .ptr 0 0, .val (.string x), .val (.string y), [.row (.cells [.val (.bool rb), .val (.string rs)]) 81 .live]=>bif T.length==53 then some (κ x y rb rs, .exit 0,sh_rg ((φ x y rb rs).1) ((φ x y rb rs).2) rb rs,hp_rg ((φ x y rb rs).1) ((φ x y rb rs).2) rb rs) else none
 | _,_,_,_=>none
abbrev KT_rg:Type:=ByteArray→ByteArray→Bool→ByteArray→Bool
abbrev FT_rg:Type:=ByteArray→ByteArray→Bool→ByteArray→ByteArray×ByteArray
def LL_rg (κ:KT_rg) (φ:FT_rg) (L:LTab):LTab:=addLn 0 128 p_rg [4,5,6] (told_rg κ φ) L
def phi_rg (x:ByteArray) (y:ByteArray) (rb:Bool) (rs:ByteArray):ByteArray×ByteArray:=Classical.epsilon fun ρ=>LoopTo Tryz.prog (lb 128 p_rg) (sh_rg x y rb rs) (hp_rg x y rb rs) (.exit 0) (sh_rg (ρ.1) (ρ.2) rb rs) (hp_rg (ρ.1) (ρ.2) rb rs)∧post_rg x y rb rs ρ
theorem phi_rg_spec (x:ByteArray) (y:ByteArray) (rb:Bool) (rs:ByteArray) (h:pre_rg x y rb rs):LoopTo Tryz.prog (lb 128 p_rg) (sh_rg x y rb rs) (hp_rg x y rb rs) (.exit 0) (sh_rg ((phi_rg x y rb rs).1) ((phi_rg x y rb rs).2) rb rs) (hp_rg ((phi_rg x y rb rs).1) ((phi_rg x y rb rs).2) rb rs)∧post_rg x y rb rs (phi_rg x y rb rs):=Classical.epsilon_spec (loop_rg x y rb rs h)
def cond_rg (x:ByteArray) (y:ByteArray) (rb:Bool) (rs:ByteArray):Bool:= @decide (pre_rg x y rb rs) (Classical.propDecidable _)
theorem cond_rg_eq (x:ByteArray) (y:ByteArray) (rb:Bool) (rs:ByteArray) (h:pre_rg x y rb rs):cond_rg x y rb rs=true:= @decide_eq_true _ (Classical.propDecidable _) h
theorem told_rg_ok (T:List AV) (H:Hp) (e:Ex) (T1:List AV) (H1:Hp) (h:told_rg cond_rg phi_rg T H=some (true,e,T1,H1)):V.Ends Tryz.prog false 0 0 (.loop (lb 128 p_rg)) T H e T1 H1:=by
 unfold told_rg at h
 split at h
 ·rename_i x y rb rs h4 h5 h6
  rw [Bool.cond_eq_ite] at h
  split at h
  ·rename_i hlen
   rw [beq_iff_eq] at hlen
   simp only [Option.some.injEq,Prod.mk.injEq,Bool.and_eq_true,decide_eq_true_eq] at h
   obtain ⟨k1,rfl,rfl,rfl⟩:=h
   have kc:= @of_decide_eq_true _ (Classical.propDecidable _) k1
   refine Ends.pre (phi_rg_spec x y rb rs kc).1.ends (fun α B w D ys hr=>slots_rel hlen (fun p hp y hy=> ?_) hr)
   simp only [List.mem_cons,List.not_mem_nil,or_false] at hp
   rcases hp with rfl | rfl | rfl
   ·rw [h4] at hy;exact hy
   ·rw [h5] at hy;exact hy
   ·rw [h6] at hy;exact hy
  ·cases h
 ·cases h
theorem LL_rg_ok {L:LTab} (h:LOk Tryz.prog L):LOk Tryz.prog (LL_rg cond_rg phi_rg L):=h.add2n body_rg told_rg_ok
abbrev p_rh:List Bool:= [false,false,true,true,true,true,true]
def sh_rh (m:Int) (n:Int) (rb:Bool) (rs:ByteArray):List AV:=slots 53 [(4, .ptr 0 0),(9, .val (.int .i64 m)),(10, .val (.int .i64 n))]
def hp_rh (m:Int) (n:Int) (rb:Bool) (rs:ByteArray):Hp:= [.row (.cells [.val (.bool rb), .val (.string rs)]) 81 .live]
theorem body_rh:subC Tryz.prog 128 p_rh=some (.loop (lb 128 p_rh)):=by kernel_rfl
theorem code_rh:subC Tryz.prog 128 (false :: p_rh)=some (lb 128 p_rh):=by kernel_rfl
theorem round_rh (m:Int) (n:Int) (rb:Bool) (rs:ByteArray):roundA Tryz.prog EL0 128 [4,9,10] (lb 128 p_rh) (false :: p_rh) (sh_rh m n rb rs) (hp_rh m n rb rs)=
  (bif decide ((0:Int) < n) then (bif decide (n=(0:Int)) then none else some (.normal,slots 53 [(4,(.ptr 0 0)),(9,(.val (.int .i64 n))),(10,(.val (.int .i64 (m.tmod n))))], [(.row (.cells [(.val (.bool rb)),(.val (.string rs))]) 81 .live)])) else some ((.exit 2),slots 53 [(4,(.ptr 0 0)),(9,(.val (.int .i64 m))),(10,(.val (.int .i64 n)))], [(.row (.cells [(.val (.bool rb)),(.val (.string rs))]) 81 .live)])):=by kernel_rfl
theorem step_rh {m:Int} {n:Int} {rb:Bool} {rs:ByteArray} {e:Ex} {T:List AV} {H:Hp} (h:roundA Tryz.prog EL0 128 [4,9,10] (lb 128 p_rh) (false :: p_rh) (sh_rh m n rb rs) (hp_rh m n rb rs)=some (e,T,H)):V.Ends Tryz.prog false 0 0 (lb 128 p_rh) (sh_rh m n rb rs) (hp_rh m n rb rs) e T H:=
 round_ends (meets_none _) loops_none mixed code_rh h
def pre_rh (m n:Int) (rb:Bool) (rs:ByteArray):Prop:=0≤m∧0≤n
def post_rh (m n:Int) (rb:Bool) (rs:ByteArray) (r:Int×Int):Prop:=r.1=(Nat.gcd m.toNat n.toNat:Nat)
theorem rh_go (rb:Bool) (rs:ByteArray) (k:Nat):∀ a b:Nat,b=k→∃ r:Int×Int,LoopTo Tryz.prog (lb 128 p_rh) (sh_rh a b rb rs) (hp_rh a b rb rs) (.exit 2) (sh_rh r.1 r.2 rb rs) (hp_rh r.1 r.2 rb rs)∧r.1=(Nat.gcd a b:Nat):=by
 induction k using Nat.strongRecOn with
 | _ k ih=>
  intro a b hb
  have hr:=round_rh a b rb rs
  by_cases h0:b=0
  ·refine ⟨((a:Int),(b:Int)), .last (step_rh ?_) (by intro h;cases h),by rw [h0,Nat.gcd_zero_right]⟩
   rw [hr,dF (show ¬ (0:Int) < (b:Int) by omega)]
   rfl
  ·have hm:a % b < b:=Nat.mod_lt _ (by omega)
   obtain ⟨r,k1,k2⟩:=ih (a % b) (by omega) b (a % b) rfl
   refine ⟨r, .more (step_rh ?_) k1,by rw [k2,Nat.gcd_comm b,← Nat.gcd_rec,Nat.gcd_comm]⟩
   rw [hr,dT (show (0:Int) < (b:Int) by omega),dF (show ¬ (b:Int)=0 by omega)]
   rfl
theorem loop_rh (m n:Int) (rb:Bool) (rs:ByteArray) (h:pre_rh m n rb rs):∃ r:Int×Int,LoopTo Tryz.prog (lb 128 p_rh) (sh_rh m n rb rs) (hp_rh m n rb rs) (.exit 2) (sh_rh r.1 r.2 rb rs) (hp_rh r.1 r.2 rb rs)∧post_rh m n rb rs r:=by
 obtain ⟨h1,h2⟩:=h
 obtain ⟨a,rfl⟩:=Int.eq_ofNat_of_zero_le h1
 obtain ⟨b,rfl⟩:=Int.eq_ofNat_of_zero_le h2
 exact rh_go rb rs b a b rfl
def told_rh (κ:Int→Int→Bool→ByteArray→Bool) (φ:Int→Int→Bool→ByteArray→Int×Int) (T:List AV) (H:Hp):Option (Bool×Ex×List AV×Hp):=
 match lget T 4,lget T 9,lget T 10,H with
 | .ptr 0 0, .val (.int .i64 m), .val (.int .i64 n), [.row (.cells [.val (.bool rb), .val (.string rs)]) 81 .live]=>bif T.length==53 then some (κ m n rb rs, .exit 2,sh_rh ((φ m n rb rs).1) ((φ m n rb rs).2) rb rs,hp_rh ((φ m n rb rs).1) ((φ m n rb rs).2) rb rs) else none
 | _,_,_,_=>none
abbrev KT_rh:Type:=Int→Int→Bool→ByteArray→Bool
abbrev FT_rh:Type:=Int→Int→Bool→ByteArray→Int×Int
def LL_rh (κ:KT_rh) (φ:FT_rh) (L:LTab):LTab:=addLn 0 128 p_rh [4,9,10] (told_rh κ φ) L
def phi_rh (m:Int) (n:Int) (rb:Bool) (rs:ByteArray):Int×Int:=Classical.epsilon fun ρ=>LoopTo Tryz.prog (lb 128 p_rh) (sh_rh m n rb rs) (hp_rh m n rb rs) (.exit 2) (sh_rh (ρ.1) (ρ.2) rb rs) (hp_rh (ρ.1) (ρ.2) rb rs)∧post_rh m n rb rs ρ
theorem phi_rh_spec (m:Int) (n:Int) (rb:Bool) (rs:ByteArray) (h:pre_rh m n rb rs):LoopTo Tryz.prog (lb 128 p_rh) (sh_rh m n rb rs) (hp_rh m n rb rs) (.exit 2) (sh_rh ((phi_rh m n rb rs).1) ((phi_rh m n rb rs).2) rb rs) (hp_rh ((phi_rh m n rb rs).1) ((phi_rh m n rb rs).2) rb rs)∧post_rh m n rb rs (phi_rh m n rb rs):=Classical.epsilon_spec (loop_rh m n rb rs h)
def cond_rh (m:Int) (n:Int) (rb:Bool) (rs:ByteArray):Bool:= @decide (pre_rh m n rb rs) (Classical.propDecidable _)
theorem cond_rh_eq (m:Int) (n:Int) (rb:Bool) (rs:ByteArray) (h:pre_rh m n rb rs):cond_rh m n rb rs=true:= @decide_eq_true _ (Classical.propDecidable _) h
theorem told_rh_ok (T:List AV) (H:Hp) (e:Ex) (T1:List AV) (H1:Hp) (h:told_rh cond_rh phi_rh T H=some (true,e,T1,H1)):V.Ends Tryz.prog false 0 0 (.loop (lb 128 p_rh)) T H e T1 H1:=by
 unfold told_rh at h
 split at h
 ·rename_i m n rb rs h4 h9 h10
  rw [Bool.cond_eq_ite] at h
  split at h
  ·rename_i hlen
   rw [beq_iff_eq] at hlen
   simp only [Option.some.injEq,Prod.mk.injEq,Bool.and_eq_true,decide_eq_true_eq] at h
   obtain ⟨k1,rfl,rfl,rfl⟩:=h
   have kc:= @of_decide_eq_true _ (Classical.propDecidable _) k1
   refine Ends.pre (phi_rh_spec m n rb rs kc).1.ends (fun α B w D ys hr=>slots_rel hlen (fun p hp y hy=> ?_) hr)
   simp only [List.mem_cons,List.not_mem_nil,or_false] at hp
   rcases hp with rfl | rfl | rfl
   ·rw [h4] at hy;exact hy
   ·rw [h9] at hy;exact hy
   ·rw [h10] at hy;exact hy
  ·cases h
 ·cases h
theorem LL_rh_ok {L:LTab} (h:LOk Tryz.prog L):LOk Tryz.prog (LL_rh cond_rh phi_rh L):=h.add2n body_rh told_rh_ok
theorem rgcd_call (S:Sg) (κ:KT_rg) (φ:FT_rg) (κ2:KT_rh) (φ2:FT_rh) (b c:Bool) (s t:ByteArray):letI q_1:=(φ (S.mg (S.vs s)) (S.mg (S.vs t)) false (ByteArray.mk #[]));letI q_2:=(φ2 (↑(S.vs q_1.fst):Int) (↑(S.vs q_1.snd):Int) false (ByteArray.mk #[]));
  (callA Tryz.prog ⟨CRG S,Kall,LL_rg κ φ (LL_rh κ2 φ2 noL)⟩ 10 10 128 [.agg [.val (.bool b), .val (.string s)], .agg [.val (.bool c), .val (.string t)]]=(bif κ (S.mg (S.vs s)) (S.mg (S.vs t)) false (ByteArray.mk #[]) then (bif strEq q_1.snd (ByteArray.mk #[]) then some (.agg [(.val (.bool false)),(.val (.string (q_1.fst)))]) else (bif decide (q_1.fst.size≤(8:Nat))&&decide (S.vs q_1.fst < (9223372036854775808:Nat)) then (bif decide (q_1.snd.size≤(8:Nat))&&decide (S.vs q_1.snd < (9223372036854775808:Nat)) then (bif κ2 (↑(S.vs q_1.fst):Int) (↑(S.vs q_1.snd):Int) false (ByteArray.mk #[]) then (bif inI q_2.fst then some (.agg [(.val (.bool (S.ng q_2.fst))),(.val (.string (S.ms q_2.fst)))]) else none) else none) else none) else none)) else none)):=by kernel_rfl
def tGcd2 (S:Sg) (X:Xg) (args:List AV):Option (Bool×AV):=match args with | [.agg [.val (.bool b), .val (.string s)], .agg [.val (.bool c), .val (.string t)]]=>some (X.ok2 s&&X.ok2 t,S.int (X.gcd (S.val b s) (S.val c t))) | _=>none
theorem eRGcdX (X:Xg) (hg:X.gcd=fun x y=>(Nat.gcd x.natAbs y.natAbs:Int)) (h2:X.ok2=fun s=>decide (s.size≤68719476736)):Entry Tryz.prog 128 (tGcd2 sg0 X):=by
 refine entry_of (E:= ⟨CRG sg0,Kall,LL_rg cond_rg phi_rg (LL_rh cond_rh phi_rh noL)⟩) (u:=10) (d:=10) CRG_ok (LL_rg_ok (LL_rh_ok LOk.none)).ok mixed (by kernel_rfl) (fun args r h=> ?_)
 unfold tGcd2 at h
 split at h
 ·rename_i b s c t
  rw [h2,hg] at h
  simp only [Option.some.injEq,Prod.mk.injEq,Bool.and_eq_true,decide_eq_true_eq] at h
  obtain ⟨⟨g1,g2⟩,rfl⟩:=h
  have hcall:=rgcd_call sg0 cond_rg phi_rg cond_rh phi_rh b c s t
  have k1:=bs_vs s
  have k2:=bs_vs t
  have hp:pre_rg (sg0.mg (sg0.vs s)) (sg0.mg (sg0.vs t)) false (ByteArray.mk #[]):= ⟨sg0.vs s,sg0.vs t,rfl,rfl,by omega,by omega⟩
  obtain ⟨_,a,e,q1,q2,q3,q4⟩:=phi_rg_spec _ _ _ _ hp
  have v1:vS (sg0.mg (sg0.vs s))=sg0.vs s:=vs_mg _
  have v2:vS (sg0.mg (sg0.vs t))=sg0.vs t:=vs_mg _
  rw [v1,v2] at q3
  rw [cond_rg_eq _ _ _ _ hp,q1,q2,mag_nil] at hcall
  rw [hcall,← vs_val b s,← vs_val c t]
  have hend:∀ g:Nat,sg0.int (g:Int)= .agg [.val (.bool false), .val (.string (magOf g))]:=fun g=>int_nn (Int.natCast_nonneg g)
  by_cases h0:e=0
  ·rw [h0,Nat.gcd_zero_right] at q3
   rw [dT h0,← q3,hend];rfl
  ·obtain ⟨q5,q6⟩:=q4.resolve_left h0
   have w1:=bs_small q5
   have w2:=bs_small q6
   have va:sg0.vs (magOf a)=a:=vs_magOf a
   have ve:sg0.vs (magOf e)=e:=vs_magOf e
   have hp2:pre_rh (a:Int) (e:Int) false (ByteArray.mk #[]):= ⟨by omega,by omega⟩
   obtain ⟨_,hpost⟩:=phi_rh_spec _ _ _ _ hp2
   have hpost:(phi_rh (a:Int) (e:Int) false (ByteArray.mk #[])).1=(Nat.gcd a e:Nat):=hpost
   have hle:Nat.gcd a e≤e:=Nat.gcd_le_right _ (by omega)
   rw [dF h0,size_mag,size_mag,va,ve,dT (show bs a≤8 by omega),dT (show bs e≤8 by omega),dT (show a < 9223372036854775808 by omega),dT (show e < 9223372036854775808 by omega),cond_rh_eq _ _ _ _ hp2,hpost]
   have hi:inI ((Nat.gcd a e:Nat):Int)=true:=by
    unfold inI
    rw [Bool.and_eq_true,decide_eq_true_eq,decide_eq_true_eq]
    omega
   rw [hi,q3]
   rfl
 ·cases h
end
end Go.Proofs.YtamcpiicmfielaaGreat.L
namespace Go.Proofs.YtamcpiicmfielaaGreat.L
open Go Go.V Go.RowKit Go.Proofs.YtamcpiicmfielaaGreat.Sp Go.Proofs.YtamcpiicmfielaaGreat.F Go.Proofs.YtamcpiicmfielaaGreatW.PrintWords
open Go.Proofs (Tryz.prog)
noncomputable section
def CRD (S:Sg):FuncId→List AV→Option (Bool×AV):=addC 130 (tCanon S) (addC 127 (tNeg S) (addC 163 (tSub S) (CRG S)))
theorem CRD_ok:Meets Tryz.prog (CRD sg0):=((CRG_ok.add eRSub).add eRNeg).add eCanon
theorem rdiv_call (S:Sg) (b c:Bool) (s t:ByteArray):letI q_10:=(S.mg (S.vs (S.ms (S.val b s)) / S.vs (S.ms (S.val c t))));letI q_4:=(S.mg (S.vs (S.ms (S.val b s)) % S.vs (S.ms (S.val c t))));letI q_5:=(-S.val false q_10);letI q_8:=(S.val false (S.ms (S.val c t)) - S.val false q_4);letI q_9:=(S.val (S.ng q_5) (S.ms q_5) - S.val (S.ng (1:Int)) (S.ms (1:Int)));letI q_1:Option AV:=(bif ok42 (S.ms (S.val b s))&&ok42 (S.ms (S.val c t))&&strEq (S.ms (S.val c t)) (S.mg (S.vs (S.ms (S.val c t))))&&decide ((0:Nat) < S.vs (S.ms (S.val c t))) then (bif bif true then !S.ng (S.val b s)==S.ng (S.val c t) else S.ng (S.val b s)==S.ng (S.val c t) then (bif S.ok q_10 then (bif !strEq q_4 (ByteArray.mk #[]) then (bif S.ok (S.ms q_5)&&S.ok (S.ms (1:Int)) then (bif S.ok (S.ms (S.val c t))&&S.ok q_4 then (bif S.ng (S.val c t) then (bif S.ok (S.ms q_8) then some (.tup [(.agg [(.val (.bool (S.ng q_9))),(.val (.string (S.ms q_9)))]),(.agg [(.val (.bool (S.ng (-S.val (S.ng q_8) (S.ms q_8))))),(.val (.string (S.ms (-S.val (S.ng q_8) (S.ms q_8)))))]),(.val (.int .i64 0))]) else none) else some (.tup [(.agg [(.val (.bool (S.ng q_9))),(.val (.string (S.ms q_9)))]),(.agg [(.val (.bool (S.ng q_8))),(.val (.string (S.ms q_8)))]),(.val (.int .i64 0))])) else none) else none) else (bif S.ng (S.val c t) then (bif S.ok q_4 then some (.tup [(.agg [(.val (.bool (S.ng q_5))),(.val (.string (S.ms q_5)))]),(.agg [(.val (.bool (S.ng (-S.val false q_4)))),(.val (.string (S.ms (-S.val false q_4))))]),(.val (.int .i64 0))]) else none) else some (.tup [(.agg [(.val (.bool (S.ng q_5))),(.val (.string (S.ms q_5)))]),(.agg [(.val (.bool false)),(.val (.string q_4))]),(.val (.int .i64 0))]))) else none) else (bif S.ng (S.val c t) then (bif S.ok q_4 then some (.tup [(.agg [(.val (.bool false)),(.val (.string q_10))]),(.agg [(.val (.bool (S.ng (-S.val false q_4)))),(.val (.string (S.ms (-S.val false q_4))))]),(.val (.int .i64 0))]) else none) else some (.tup [(.agg [(.val (.bool false)),(.val (.string q_10))]),(.agg [(.val (.bool false)),(.val (.string q_4))]),(.val (.int .i64 0))]))) else none);letI q_12:=(↑(S.vs (S.ms (S.val c t))):Int);letI q_2:=((↑(S.vs (S.ms (S.val b s))):Int).tdiv q_12);letI q_3:=((↑(S.vs (S.ms (S.val b s))):Int).tmod q_12);letI q_11:=(-S.val (S.ng q_2) (S.ms q_2));letI q_6:=(S.val (S.ng q_11) (S.ms q_11) - S.val (S.ng (1:Int)) (S.ms (1:Int)));letI q_7:=(S.val false (S.ms (S.val c t)) - S.val (S.ng q_3) (S.ms q_3));
  (callA Tryz.prog ⟨CRD S,Kall,noL⟩ 10 10 129 [.agg [.val (.bool b), .val (.string s)], .agg [.val (.bool c), .val (.string t)]]=(bif strEq (S.ms (S.val c t)) (ByteArray.mk #[]) then some (.tup [(.agg [(.val (.bool false)),(.val (.string (ByteArray.mk #[])))]),(.agg [(.val (.bool false)),(.val (.string (ByteArray.mk #[])))]),(.val (.int .i64 10))]) else (bif decide ((↑(S.ms (S.val b s)).size:Int) < (8:Int)) then (bif decide ((↑(S.ms (S.val c t)).size:Int) < (8:Int)) then (bif decide ((S.ms (S.val b s)).size≤(8:Nat))&&decide (S.vs (S.ms (S.val b s)) < (9223372036854775808:Nat)) then (bif decide ((S.ms (S.val c t)).size≤(8:Nat))&&decide (S.vs (S.ms (S.val c t)) < (9223372036854775808:Nat)) then (bif decide (q_12=(0:Int)) then none else (bif inR IntKind.i64 q_2 then (bif inI q_2 then (bif decide (q_12=(0:Int)) then none else (bif inI q_3 then (bif bif true then !S.ng (S.val b s)==S.ng (S.val c t) else S.ng (S.val b s)==S.ng (S.val c t) then (bif S.ok (S.ms q_2) then (bif !strEq (S.ms q_3) (ByteArray.mk #[]) then (bif S.ok (S.ms q_11)&&S.ok (S.ms (1:Int)) then (bif S.ok (S.ms (S.val c t))&&S.ok (S.ms q_3) then (bif S.ng (S.val c t) then (bif S.ok (S.ms q_7) then some (.tup [(.agg [(.val (.bool (S.ng q_6))),(.val (.string (S.ms q_6)))]),(.agg [(.val (.bool (S.ng (-S.val (S.ng q_7) (S.ms q_7))))),(.val (.string (S.ms (-S.val (S.ng q_7) (S.ms q_7)))))]),(.val (.int .i64 0))]) else none) else some (.tup [(.agg [(.val (.bool (S.ng q_6))),(.val (.string (S.ms q_6)))]),(.agg [(.val (.bool (S.ng q_7))),(.val (.string (S.ms q_7)))]),(.val (.int .i64 0))])) else none) else none) else (bif S.ng (S.val c t) then (bif S.ok (S.ms q_3) then some (.tup [(.agg [(.val (.bool (S.ng q_11))),(.val (.string (S.ms q_11)))]),(.agg [(.val (.bool (S.ng (-S.val (S.ng q_3) (S.ms q_3))))),(.val (.string (S.ms (-S.val (S.ng q_3) (S.ms q_3)))))]),(.val (.int .i64 0))]) else none) else some (.tup [(.agg [(.val (.bool (S.ng q_11))),(.val (.string (S.ms q_11)))]),(.agg [(.val (.bool (S.ng q_3))),(.val (.string (S.ms q_3)))]),(.val (.int .i64 0))]))) else none) else (bif S.ng (S.val c t) then (bif S.ok (S.ms q_3) then some (.tup [(.agg [(.val (.bool (S.ng q_2))),(.val (.string (S.ms q_2)))]),(.agg [(.val (.bool (S.ng (-S.val (S.ng q_3) (S.ms q_3))))),(.val (.string (S.ms (-S.val (S.ng q_3) (S.ms q_3)))))]),(.val (.int .i64 0))]) else none) else some (.tup [(.agg [(.val (.bool (S.ng q_2))),(.val (.string (S.ms q_2)))]),(.agg [(.val (.bool (S.ng q_3))),(.val (.string (S.ms q_3)))]),(.val (.int .i64 0))]))) else none)) else none) else none)) else none) else none) else q_1) else q_1))):=by kernel_rfl
end
end Go.Proofs.YtamcpiicmfielaaGreat.L
namespace Go.Proofs.YtamcpiicmfielaaGreat.L
open Go Go.V Go.RowKit Go.Proofs.YtamcpiicmfielaaGreat.Sp Go.Proofs.YtamcpiicmfielaaGreat.F
open Go.Proofs (Tryz.prog)
noncomputable section
def tDiv2 (S:Sg) (X:Xg) (args:List AV):Option (Bool×AV):=match args with | [.agg [.val (.bool b), .val (.string s)], .agg [.val (.bool c), .val (.string t)]]=>some (X.ok2 s&&X.ok2 t, .tup [S.int (X.dq (S.val b s) (S.val c t)),S.int (X.dr (S.val b s) (S.val c t)), .val (.int .i64 (X.de (S.val c t)))]) | _=>none
theorem val_mg (n:Nat):sg0.val false (sg0.mg n)=(n:Int):=congrArg Int.ofNat (vs_mg n)
theorem val_msf (z:Int):sg0.val false (sg0.ms z)=(z.natAbs:Int):=congrArg Int.ofNat (vs_ms z)
theorem mgnil (n:Nat):strEq (sg0.mg n) (ByteArray.mk #[])=decide (n=0):=magOf_nil n
theorem div_val {x y:Int} (hy:y≠0) (Q R:Nat) (hQ:x.natAbs / y.natAbs=Q) (hR:x.natAbs % y.natAbs=R):
  ((x < 0↔y < 0)→zq x y=Q∧zr x y=if y < 0 then -(R:Int) else R)∧(¬ (x < 0↔y < 0)→R=0→zq x y= -(Q:Int)∧zr x y=0)∧(¬ (x < 0↔y < 0)→R≠0→zq x y= -(Q:Int) - 1∧zr x y=if y < 0 then -((y.natAbs:Int) - R) else (y.natAbs:Int) - R):=by
 have h1:R < y.natAbs:=by rw [← hR];exact Nat.mod_lt _ (by omega)
 have h2:(x.natAbs:Int)=(y.natAbs:Int)*Q+R:=by
  rw [← hQ,← hR,← Int.natCast_mul,← Int.natCast_add,Nat.div_add_mod]
 refine ⟨fun h=> ?_,fun h h3=> ?_,fun h h3=> ?_⟩
 ·apply floor_of
  ·by_cases hn:y < 0
   ·rw [if_pos hn]
    have e1:(x.natAbs:Int)= -x:=by have:=h.2 hn;omega
    have e2:(y.natAbs:Int)= -y:=by omega
    rw [e1,e2] at h2
    grind
   ·rw [if_neg hn]
    have e1:(x.natAbs:Int)=x:=by have:¬ x < 0:=fun h'=>hn (h.1 h');omega
    have e2:(y.natAbs:Int)=y:=by omega
    rw [e1,e2] at h2
    grind
  ·by_cases hn:y < 0
   ·rw [if_pos hn];omega
   ·rw [if_neg hn];omega
 ·apply floor_of
  ·by_cases hn:y < 0
   ·have e1:(x.natAbs:Int)=x:=by have:¬ x < 0:=fun h'=>h ⟨fun _=>hn,fun _=>h'⟩;omega
    have e2:(y.natAbs:Int)= -y:=by omega
    rw [e1,e2,h3] at h2
    grind
   ·have e1:(x.natAbs:Int)= -x:=by
     have:x < 0:=Classical.byContradiction fun h'=>h ⟨fun k=>absurd k h',fun k=>absurd k hn⟩
     omega
    have e2:(y.natAbs:Int)=y:=by omega
    rw [e1,e2,h3] at h2
    grind
  ·omega
 ·apply floor_of
  ·by_cases hn:y < 0
   ·rw [if_pos hn]
    have e1:(x.natAbs:Int)=x:=by have:¬ x < 0:=fun h'=>h ⟨fun _=>hn,fun _=>h'⟩;omega
    have e2:(y.natAbs:Int)= -y:=by omega
    rw [e1,e2] at h2
    rw [e2]
    grind
   ·rw [if_neg hn]
    have e1:(x.natAbs:Int)= -x:=by
     have:x < 0:=Classical.byContradiction fun h'=>h ⟨fun k=>absurd k h',fun k=>absurd k hn⟩
     omega
    have e2:(y.natAbs:Int)=y:=by omega
    rw [e1,e2] at h2
    rw [e2]
    grind
  ·by_cases hn:y < 0
   ·rw [if_pos hn];omega
   ·rw [if_neg hn];omega
theorem eRDivX (X:Xg) (hq:X.dq=zq) (hr:X.dr=zr) (he:X.de=ze) (h2:X.ok2=fun s=>decide (s.size≤68719476736)):Entry Tryz.prog 129 (tDiv2 sg0 X):=by
 refine entry_of (E:= ⟨CRD sg0,Kall,noL⟩) (u:=10) (d:=10) CRD_ok loops_none mixed (by kernel_rfl) (fun args r h=> ?_)
 unfold tDiv2 at h
 split at h
 ·rename_i b s c t
  rw [h2,hq,hr,he] at h
  simp only [Option.some.injEq,Prod.mk.injEq,Bool.and_eq_true,decide_eq_true_eq] at h
  obtain ⟨⟨g1,g2⟩,rfl⟩:=h
  have hcall:=rdiv_call sg0 b c s t
  have k1:=bs_val b s
  have k2:=bs_val c t
  simp only [val_ms,vs_ms,val_mg,val_msf,mgnil,msnil,size_ms] at hcall
  generalize sg0.val b s=x at*
  generalize sg0.val c t=y at*
  have z0:∀ z,sg0.int z= .agg [.val (.bool (sg0.ng z)), .val (.string (sg0.ms z))]:=fun z=>rfl
  by_cases h0:y=0
  ·rw [dT h0] at hcall
   rw [hcall,h0,ez0]
   have e1:zq x 0=0:=if_pos rfl
   have e2:zr x 0=0:=if_pos rfl
   rw [e1,e2,int_nn (Int.le_refl 0)]
   have e3:sg0.mg (0:Int).natAbs=ByteArray.mk #[]:=ms_zero
   rw [e3];rfl
  ·obtain ⟨v1,v2,v3⟩:=div_val (x:=x) h0 _ _ rfl rfl
   have hR:x.natAbs % y.natAbs < y.natAbs:=Nat.mod_lt _ (by omega)
   have hRx:=Nat.mod_le x.natAbs y.natAbs
   have hQx:=Nat.div_le_self x.natAbs y.natAbs
   have t1:((x.natAbs:Nat):Int).tdiv ((y.natAbs:Nat):Int)=((x.natAbs / y.natAbs:Nat):Int):=rfl
   have t2:((x.natAbs:Nat):Int).tmod ((y.natAbs:Nat):Int)=((x.natAbs % y.natAbs:Nat):Int):=rfl
   rw [t1,t2,ng_eq x,ng_eq y] at hcall
   have hb1:=bs_add (x.natAbs+y.natAbs) 1
   have hb2:=bs_add x.natAbs y.natAbs
   have hb3:bs 1≤1:=bs_le (by decide)
   have okz:∀ z:Int,z.natAbs≤x.natAbs+y.natAbs+1→sg0.ok (sg0.ms z)=true:=fun z hz=>ok_ms (Nat.le_trans (bs_mono hz) (by omega))
   have okn:∀ n:Nat,n≤x.natAbs+y.natAbs+1→sg0.ok (sg0.mg n)=true:=fun n hn=>ok_mag (Nat.le_trans (bs_mono hn) (by omega))
   have o42:∀ z:Int,z.natAbs≤x.natAbs+y.natAbs+1→ok42 (sg0.ms z)=true:=fun z hz=>ok42_mag (Nat.le_trans (bs_mono hz) (by omega))
   have hsq:strEq (sg0.ms y) (sg0.mg y.natAbs)=true:=strEq_self _
   rw [dF h0,okz y (by omega),okz 1 (by omega),o42 x (by omega),o42 y (by omega),hsq,dT (show 0 < y.natAbs by omega),dF (show ¬ ((y.natAbs:Nat):Int)=0 by omega)] at hcall
   generalize hQ:x.natAbs / y.natAbs=Q at*
   generalize hRR:x.natAbs % y.natAbs=R at*
   rw [okn Q (by omega),okn R (by omega),okz (Q:Int) (by omega),okz (R:Int) (by omega),okz (-(Q:Int)) (by omega),okz ((y.natAbs:Int) - (R:Int)) (by omega)] at hcall
   rw [ezn h0]
   have iQ:=int_nn (z:=(Q:Int)) (by omega)
   have iR:=int_nn (z:=(R:Int)) (by omega)
   rw [Int.natAbs_natCast] at iQ iR
   have fin:∀ u:Bool,(bif u then (bs x.natAbs≤7∧bs y.natAbs≤7) else ¬ (bs x.natAbs≤7∧bs y.natAbs≤7))=True→callA Tryz.prog ⟨CRD sg0,Kall,noL⟩ 10 10 129 [.agg [.val (.bool b), .val (.string s)], .agg [.val (.bool c), .val (.string t)]]=some (.tup [sg0.int (zq x y),sg0.int (zr x y), .val (.int .i64 0)]):=by
    intro u hu
    have leaf:(x < 0↔y < 0)∨(¬ (x < 0↔y < 0)∧R=0)∨(¬ (x < 0↔y < 0)∧R≠0):=by
     by_cases q1:(x < 0↔y < 0)
     ·exact .inl q1
     ·by_cases q2:R=0
      ·exact .inr (.inl ⟨q1,q2⟩)
      ·exact .inr (.inr ⟨q1,q2⟩)
    cases u with
    | true=>
     have hu:bs x.natAbs≤7∧bs y.natAbs≤7:=of_eq_true hu
     have w1:=bs_small hu.1
     have w2:=bs_small hu.2
     have i1:inI (Q:Int)=true:=by unfold inI;rw [Bool.and_eq_true,decide_eq_true_eq,decide_eq_true_eq];omega
     have i2:inI (R:Int)=true:=by unfold inI;rw [Bool.and_eq_true,decide_eq_true_eq,decide_eq_true_eq];omega
     rw [dT (show ((bs x.natAbs:Nat):Int) < 8 by omega),dT (show ((bs y.natAbs:Nat):Int) < 8 by omega),dT (show bs x.natAbs≤8 by omega),dT (show bs y.natAbs≤8 by omega),dT (show x.natAbs < 9223372036854775808 by omega),dT (show y.natAbs < 9223372036854775808 by omega),i64T (z:=(Q:Int)) (by omega),i1,i2] at hcall
     rw [hcall]
     rcases leaf with q | ⟨q,q2⟩ | ⟨q,q2⟩
     ·rw [(v1 q).1,(v1 q).2,beq_dec q]
      by_cases hn:y < 0
      ·rw [dT hn,if_pos hn];rfl
      ·rw [dF hn,if_neg hn];rfl
     ·obtain ⟨e1,e2⟩:=v2 q q2
      rw [e1,e2,bne_dec q,q2,dT (show ((0:Nat):Int)=0 from rfl)]
      by_cases hn:y < 0
      ·rw [dT hn];rfl
      ·rw [dF hn];rfl
     ·obtain ⟨e1,e2⟩:=v3 q q2
      rw [e1,e2,bne_dec q,dF (show ¬ ((R:Nat):Int)=0 by omega)]
      by_cases hn:y < 0
      ·rw [dT hn,if_pos hn];rfl
      ·rw [dF hn,if_neg hn];rfl
    | false=>
     have hu:¬ (bs x.natAbs≤7∧bs y.natAbs≤7):=of_eq_true hu
     rw [hcall]
     have big:∀ (X Y:Option AV),(bif decide (((bs x.natAbs:Nat):Int) < 8) then (bif decide (((bs y.natAbs:Nat):Int) < 8) then X else Y) else Y)=Y:=by
      intro X Y
      by_cases p1:bs x.natAbs≤7
      ·rw [dT (show ((bs x.natAbs:Nat):Int) < 8 by omega),dF (show ¬ ((bs y.natAbs:Nat):Int) < 8 by omega)];rfl
      ·rw [dF (show ¬ ((bs x.natAbs:Nat):Int) < 8 by omega)];rfl
     rw [cond_false,big]
     rcases leaf with q | ⟨q,q2⟩ | ⟨q,q2⟩
     ·rw [(v1 q).1,(v1 q).2,beq_dec q,iQ]
      by_cases hn:y < 0
      ·rw [dT hn,if_pos hn];rfl
      ·rw [dF hn,if_neg hn,iR];rfl
     ·obtain ⟨e1,e2⟩:=v2 q q2
      rw [q2] at iR
      rw [e1,e2,bne_dec q,q2,dT (show (0:Nat)=0 from rfl)]
      by_cases hn:y < 0
      ·rw [dT hn];rfl
      ·rw [dF hn,show (0:Int)=((0:Nat):Int) from rfl,iR];rfl
     ·obtain ⟨e1,e2⟩:=v3 q q2
      rw [e1,e2,bne_dec q,dF q2]
      by_cases hn:y < 0
      ·rw [dT hn,if_pos hn];rfl
      ·rw [dF hn,if_neg hn];rfl
   by_cases hs:bs x.natAbs≤7∧bs y.natAbs≤7
   ·exact fin true (eq_true hs)
   ·exact fin false (eq_true hs)
 ·cases h
end
end Go.Proofs.YtamcpiicmfielaaGreat.L
