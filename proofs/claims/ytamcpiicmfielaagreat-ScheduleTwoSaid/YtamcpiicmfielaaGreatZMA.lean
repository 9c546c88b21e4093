import Derived.Test.YtamcpiicmfielaaGreatZL
set_option linter.unusedVariables false
set_option linter.unusedSimpArgs false
namespace Go.Proofs.YtamcpiicmfielaaGreat.L
open Go Go.V Go.RowKit Go.Proofs.YtamcpiicmfielaaGreat.Sp Go.Proofs.YtamcpiicmfielaaGreat.F Go.Proofs.YtamcpiicmfielaaGreatW.PrintWords
open Go.Proofs (Tryz.prog)
noncomputable section
def GC (S:Sg) (args:List AV):Option (Bool×AV):=match args with | [.val (.int .u32 x)]=>some (bZ x, .val (.int .i64 (32 - (S.bl x.toNat:Int)))) | _=>none
theorem XM:Entry Tryz.prog 170 (GC aa):=by
 refine bg (E:= ⟨qX aa,au,aq⟩) (u:=10) (d:=10) It aN mixed (by kernel_rfl) (fun args r h=> ?_)
 unfold GC at h
 split at h
 ·rename_i x
  simp only [Option.some.injEq,Prod.mk.injEq] at h
  obtain ⟨G,rfl⟩:=h
  rw [ZN,G]
  obtain ⟨n,I,rfl⟩:=j4 G
  have hb:=CG n 32 I
  rw [Int.toNat_natCast,aM (show -9223372036854775808≤(32:Int) - (aa.bl n:Int)∧(32:Int) - (aa.bl n:Int)≤9223372036854775807 by omega)]
  rfl
 ·cases h
def Gw (args:List AV):Option (Bool×AV):=match args with
 | [.val (.int .u32 x), .val (.int .u32 y), .val (.int .u32 z)]=>some (bZ x&&bZ y&&bZ z&&decide (x < z), .tup [.val (.int .u32 ((x*4294967296+y) / z)), .val (.int .u32 ((x*4294967296+y) % z))])
 | _=>none
theorem yL (h l:Nat) (G:h < 4294967296) (I:l < 4294967296):cm .or .u64 (IntKind.u64.wrap ((h:Int)*4294967296)) (l:Int)=((h*4294967296+l:Nat):Int):=by
 have e:=ab8 h l G I
 rw [eU (a:=l) (by omega)] at e
 exact e
theorem XB:Entry Tryz.prog 174 Gw:=by
 refine bg (E:=nQ) (u:=10) (d:=10) (aJ _) aN mixed (by kernel_rfl) (fun args r h=> ?_)
 unfold Gw at h
 split at h
 ·simp only [Option.some.injEq,Prod.mk.injEq,Bool.and_eq_true,decide_eq_true_eq] at h
  obtain ⟨⟨⟨⟨G,I⟩,J⟩,Z⟩,rfl⟩:=h
  obtain ⟨x,O,rfl⟩:=j4 G
  obtain ⟨y,U,rfl⟩:=j4 I
  obtain ⟨z,aE,rfl⟩:=j4 J
  have M:(x*4294967296+y) / z < 4294967296:=by
   rw [Nat.div_lt_iff_lt_mul (by omega)]
   grind
  have ab:(x*4294967296+y) % z < z:=Nat.mod_lt _ (by omega)
  rw [W2,dF (show ¬ (z:Int)=0 by omega),dF (show ¬ (z:Int)≤x by omega),dj (show 0≤(x:Int)∧(x:Int)≤18446744073709551615 by omega),dj (show 0≤(y:Int)∧(y:Int)≤18446744073709551615 by omega),dj (show 0≤(z:Int)∧(z:Int)≤18446744073709551615 by omega),yL x y O U]
  rw [show Int.tdiv ((x*4294967296+y:Nat):Int) (z:Int)=(((x*4294967296+y) / z:Nat):Int) from rfl,show Int.tmod ((x*4294967296+y:Nat):Int) (z:Int)=(((x*4294967296+y) % z:Nat):Int) from rfl,eU (by omega),dH,dH,Nat.mod_eq_of_lt M,Nat.mod_eq_of_lt (show (x*4294967296+y) % z < 4294967296 by omega)]
  rfl
 ·cases h
def Gu (args:List AV):Option (Bool×AV):=match args with
 | [.val (.int .u32 x), .val (.int .u32 y), .val (.int .u32 z)]=>some (bZ x&&bZ y&&bZ z&&decide (z≤1), .tup [.val (.int .u32 ((x+y+z) % 4294967296)), .val (.int .u32 ((x+y+z) / 4294967296))])
 | _=>none
theorem Xy:Entry Tryz.prog 175 Gu:=by
 refine bg (E:=nQ) (u:=10) (d:=10) (aJ _) aN mixed (by kernel_rfl) (fun args r h=> ?_)
 unfold Gu at h
 split at h
 ·simp only [Option.some.injEq,Prod.mk.injEq,Bool.and_eq_true,decide_eq_true_eq] at h
  obtain ⟨⟨⟨⟨G,I⟩,J⟩,M⟩,rfl⟩:=h
  obtain ⟨x,O,rfl⟩:=j4 G
  obtain ⟨y,U,rfl⟩:=j4 I
  obtain ⟨z,Z,rfl⟩:=j4 J
  rw [SV,dj (show 0≤(x:Int)∧(x:Int)≤18446744073709551615 by omega),dj (show 0≤(y:Int)∧(y:Int)≤18446744073709551615 by omega),dj (show 0≤(z:Int)∧(z:Int)≤18446744073709551615 by omega),← Int.natCast_add,eU (show x+y < 18446744073709551616 by omega),← Int.natCast_add,eU (show x+y+z < 18446744073709551616 by omega),dH,jK,dH,Nat.mod_eq_of_lt (show (x+y+z) / 4294967296 < 4294967296 by omega)]
  rfl
 ·cases h
def A9:Env:= ⟨aw 174 Gw aK,au,aq⟩
theorem RD:bf Tryz.prog A9.C:=(aJ _).add XB
abbrev gC:List Bool:= [false,true,false,true,true,true]
def jz (G:List Int) (y:Int) (zs:List Int) (r i:Int):List AV:=ar 35 [(0, .lst false 129 G.length (lim G)),(1, .val (.int .u32 y)),(6, .sl false 129 0 0 zs.length),(7, .val (.int .u32 r)),(8, .val (.int .i64 i))]
def iZ (G:List Int) (y:Int) (zs:List Int) (r i:Int):Hp:= [.row (.ints .u32 zs) 129 .live]
theorem Ud:aH Tryz.prog 169 gC=some (.loop (lb 169 gC)):=by kernel_rfl
theorem VO:aH Tryz.prog 169 (false :: gC)=some (lb 169 gC):=by kernel_rfl
theorem Pt (G:List Int) (y:Int) (zs:List Int) (r i:Int):aO Tryz.prog A9 169 [0,1,6,7,8] (lb 169 gC) (false :: gC) (jz G y zs r i) (iZ G y zs r i)=
  (bif decide ((0:Int)≤i) then (bif decide ((0:Int)≤i)&&decide (i < (↑G.length:Int)) then (bif bZ r&&bZ (G.getD i.toNat (0:Int))&&bZ y&&decide (r < y) then (bif decide ((0:Int)≤i)&&decide (i < (↑zs.length:Int)) then (bif decide (0+i.toNat*1 < zs.length) then (bif ai IntKind.i64 (i - (1:Int)) then some (.normal,ar 35 [(0,(.lst false 129 G.length (lim G))),(1,(.val (.int .u32 y))),(6,(.sl false 129 0 0 zs.length)),(7,(.val (.int .u32 ((r*(4294967296:Int)+G.getD i.toNat (0:Int)) % y)))),(8,(.val (.int .i64 (i - (1:Int)))))], [(.row (.ints .u32 (zs.set (0+i.toNat*1) ((r*(4294967296:Int)+G.getD i.toNat (0:Int)) / y))) 129 .live)]) else none) else none) else none) else none) else none) else some ((.exit 0),ar 35 [(0,(.lst false 129 G.length (lim G))),(1,(.val (.int .u32 y))),(6,(.sl false 129 0 0 zs.length)),(7,(.val (.int .u32 r))),(8,(.val (.int .i64 i)))], [(.row (.ints .u32 zs) 129 .live)])):=by kernel_rfl
theorem Qt {G:List Int} {y:Int} {zs:List Int} {r i:Int} {e:Ex} {T:List AV} {H:Hp} (h:aO Tryz.prog A9 169 [0,1,6,7,8] (lb 169 gC) (false :: gC) (jz G y zs r i) (iZ G y zs r i)=some (e,T,H)):V.Ends Tryz.prog false 0 0 (lb 169 gC) (jz G y zs r i) (iZ G y zs r i) e T H:=
 bF RD aN mixed VO h
def vW (G:List Int) (y:Int) (zs:List Int) (r i:Int):Prop:=aI G∧aI zs∧zs.length=G.length∧G.length≤17592186044416∧bZ y=true∧0 < y∧r=0∧i=(G.length:Int) - 1
def zF (G:List Int) (y:Int) (zs:List Int) (r i:Int) (q:List Int×Int×Int):Prop:=aI q.1∧q.1.length=G.length∧vL q.1=vL G / y.toNat∧q.2.1=((vL G % y.toNat:Nat):Int)
theorem aeD (G:List Int) (y:Nat) (b1:aI G) (hb:G.length≤17592186044416) (a6:0 < y) (b5:y < 4294967296) (d:Nat):∀ (r:Nat) (out:List Int),d≤G.length→aI out→out.length=G.length→r < y→dQ (vL (out.drop d)*y+r=vL (G.drop d))→
  ∃ q:List Int×Int×Int,av Tryz.prog (lb 169 gC) (jz G y out r ((d:Int) - 1)) (iZ G y out r ((d:Int) - 1)) (.exit 0) (jz G y q.1 q.2.1 q.2.2) (iZ G y q.1 q.2.1 q.2.2)∧aI q.1∧q.1.length=G.length∧vL q.1=vL G / y∧q.2.1=((vL G % y:Nat):Int):=by
 induction d with
 | zero=>
  intro r out bx M aE O I
  refine ⟨(out,(r:Int),((0:Nat):Int) - 1), .last (Qt ?_) (by grind),M,aE, ?_, ?_⟩
  ·rw [Pt];rfl
  ·have I:=I.out
   rw [List.drop_zero,List.drop_zero] at I
   show vL out=_
   rw [← I,Nat.mul_comm,Nat.mul_add_div a6,Nat.div_eq_of_lt O];simp
  ·have I:=I.out
   rw [List.drop_zero,List.drop_zero] at I
   show (r:Int)=_
   rw [← I,Nat.mul_comm,Nat.mul_add_mod,Nat.mod_eq_of_lt O]
 | succ d a7=>
  intro r out bx M aE O U
  have ab:d < G.length:=by omega
  have bD:d < out.length:=by omega
  obtain ⟨a,ha,b0,b4⟩:=cH b1 d ab
  have b3:(r*4294967296+a) / y < 4294967296:=by
   rw [Nat.div_lt_iff_lt_mul (by omega)]
   grind
  have b2:(r*4294967296+a) % y < y:=Nat.mod_lt _ a6
  obtain ⟨q,J,Z⟩:=a7 ((r*4294967296+a) % y) (out.set d (((r*4294967296+a) / y:Nat):Int)) (by omega) (fC M _ _ (Int.natCast_nonneg _) (Int.ofNat_lt.2 b3)) (by grind) b2 (by
   constructor
   rw [List.drop_eq_getElem_cons (l:=out.set d _) (by grind),List.getElem_set_self,List.drop_set_of_lt (by omega),List.drop_eq_getElem_cons ab,b0,cj,cj,Int.toNat_natCast,Int.toNat_natCast,← U.out]
   have J:=Nat.div_add_mod (r*4294967296+a) y
   grind)
  refine ⟨q, .more (Qt ?_) J,Z⟩
  clear J Z a7 U
  have a1:=Pt G y out r (d:Int)
  rw [Int.toNat_natCast,b4,fz ha,fz b5,fz (show r < 4294967296 by omega),Nat.zero_add,Nat.mul_one,dT (show (0:Int)≤(d:Int) by omega),dT (show (d:Int) < (G.length:Int) by omega),dT (show (d:Int) < (out.length:Int) by omega),dT bD,dT (show (r:Int) < y by omega),aM (show -9223372036854775808≤(d:Int) - 1∧(d:Int) - 1≤9223372036854775807 by omega)] at a1
  rw [show ((d+1:Nat):Int) - 1=(d:Int) by omega,a1]
  unfold jz iZ
  grind
theorem abb (G:List Int) (y:Int) (zs:List Int) (r i:Int) (h:vW G y zs r i):∃ q:List Int×Int×Int,av Tryz.prog (lb 169 gC) (jz G y zs r i) (iZ G y zs r i) (.exit 0) (jz G y q.1 q.2.1 q.2.2) (iZ G y q.1 q.2.1 q.2.2)∧zF G y zs r i q:=by
 obtain ⟨I,J,M,O,U,ab,rfl,rfl⟩:=h
 obtain ⟨y,Z,rfl⟩:=j4 U
 unfold zF
 rw [Int.toNat_natCast]
 exact aeD G y I O (by omega) Z G.length 0 zs (Nat.le_refl _) J M (by omega) ⟨by rw [List.drop_of_length_le (by omega),List.drop_of_length_le (Nat.le_refl _)];simp [cF]⟩
def HW (O:List Int→Int→List Int→Int→Int→Bool) (J:List Int→Int→List Int→Int→Int→List Int×Int×Int) (T:List AV) (H:Hp):Option (Bool×Ex×List AV×Hp):=
 match al T 0,al T 1,al T 6,al T 7,al T 8,H with
 | .lst false 129 I G, .val (.int .u32 y), .sl false 129 0 0 M, .val (.int .u32 r), .val (.int .i64 i), [.row (.ints .u32 zs) 129 .live]=>bif T.length==35 then some (okB I G&&decide (M=zs.length)&&O (rowOf I G) y zs r i, .exit 0,jz (rowOf I G) y ((J (rowOf I G) y zs r i).1) ((J (rowOf I G) y zs r i).2.1) ((J (rowOf I G) y zs r i).2.2),iZ (rowOf I G) y ((J (rowOf I G) y zs r i).1) ((J (rowOf I G) y zs r i).2.1) ((J (rowOf I G) y zs r i).2.2)) else none
 | _,_,_,_,_,_=>none
abbrev BV:Type:=List Int→Int→List Int→Int→Int→Bool
abbrev By:Type:=List Int→Int→List Int→Int→Int→List Int×Int×Int
def Kh (G:BV) (I:By) (L:aC):aC:=bp 0 169 gC [0,1,6,7,8] (HW G I) L
def ky (G:List Int) (y:Int) (zs:List Int) (r i:Int):List Int×Int×Int:=Classical.epsilon fun ρ=>av Tryz.prog (lb 169 gC) (jz G y zs r i) (iZ G y zs r i) (.exit 0) (jz G y (ρ.1) (ρ.2.1) (ρ.2.2)) (iZ G y (ρ.1) (ρ.2.1) (ρ.2.2))∧zF G y zs r i ρ
theorem OF (G:List Int) (y:Int) (zs:List Int) (r i:Int) (h:vW G y zs r i):av Tryz.prog (lb 169 gC) (jz G y zs r i) (iZ G y zs r i) (.exit 0) (jz G y ((ky G y zs r i).1) ((ky G y zs r i).2.1) ((ky G y zs r i).2.2)) (iZ G y ((ky G y zs r i).1) ((ky G y zs r i).2.1) ((ky G y zs r i).2.2))∧zF G y zs r i (ky G y zs r i):=Classical.epsilon_spec (abb G y zs r i h)
def uc (G:List Int) (y:Int) (zs:List Int) (r i:Int):Bool:= @decide (vW G y zs r i) (Classical.propDecidable _)
theorem WL (G:List Int) (y:Int) (zs:List Int) (r i:Int) (h:vW G y zs r i):uc G y zs r i=true:= @decide_eq_true _ (Classical.propDecidable _) h
theorem agN (T:List AV) (H:Hp) (e:Ex) (J:List AV) (I:Hp) (h:HW uc ky T H=some (true,e,J,I)):V.Ends Tryz.prog false 0 0 (.loop (lb 169 gC)) T H e J I:=by
 unfold HW at h
 split at h
 ·rename_i b1 U y b2 r i zs Z ab aE a1 a6
  rw [Bool.cond_eq_ite] at h
  split at h
  ·rename_i M
   rw [beq_iff_eq] at M
   simp only [Option.some.injEq,Prod.mk.injEq,Bool.and_eq_true,decide_eq_true_eq] at h
   obtain ⟨⟨⟨k1,bx⟩,bD⟩,rfl,rfl,rfl⟩:=h
   have b0:= @of_decide_eq_true _ (Classical.propDecidable _) bD
   refine Ends.pre (OF (rowOf b1 U) y zs r i b0).1.ends (fun α B w D b3 a7=>bq M (fun p O y G=> ?_) a7)
   simp only [List.mem_cons,List.not_mem_nil,or_false] at O
   rcases O with rfl | rfl | rfl | rfl | rfl
   ·rw [Z] at G;rw [cA];exact cE cy k1 G
   ·rw [ab] at G;exact G
   ·rw [aE] at G;rw [← bx];exact G
   ·rw [a1] at G;exact G
   ·rw [a6] at G;exact G
  ·cases h
 ·cases h
theorem SK {L:aC} (h:aB Tryz.prog L):aB Tryz.prog (Kh uc ky L):=h.bz Ud agN
def IP (S:Sg) (G:BV) (I:By):Env:= ⟨CT S,au,Kh G I aq⟩
theorem aeC (S:Sg) (M:BV) (O:By) (G:List Int) (y:Int):letI J:=(List.replicate (↑G.length:Int).toNat (0:Int));letI I:=(O (rowOf G.length (lim G)) y J (0:Int) ((↑G.length:Int) - (1:Int)));
  (aF Tryz.prog (IP S M O) 10 10 169 [.lst false 129 G.length (lim G), .val (.int .u32 y)]=(bif decide ((↑G.length:Int)≤(↑G.length:Int))&&decide ((4:Int)*(↑G.length:Int)≤(281474976710656:Int))&&decide ((↑G.length:Int)≤(9223372036854775807:Int)) then (bif ai IntKind.i64 ((↑G.length:Int) - (1:Int)) then (bif okB G.length (lim G)&&decide ((↑G.length:Int).toNat=J.length)&&M (rowOf G.length (lim G)) y J (0:Int) ((↑G.length:Int) - (1:Int)) then (bif decide (0+I.fst.length*1≤I.fst.length) then (bif S.bU I.fst.length (lim I.fst) then some (.tup [(.lst false 129 (S.len (S.num I.fst.length (lim I.fst))) (S.row (S.num I.fst.length (lim I.fst)))),(.val (.int .u32 (I.snd.fst)))]) else none) else none) else none) else none) else none)):=by kernel_rfl
def GW (S:Sg) (args:List AV):Option (Bool×AV):=match args with | [.lst _ 129 m f, .val (.int .u32 y)]=>some (S.bU m f&&bZ y&&decide (0 < y), .tup [S.fX (S.num m f / y.toNat), .val (.int .u32 ((S.num m f % y.toNat:Nat):Int))]) | _=>none
theorem Yp:Entry Tryz.prog 169 (GW aa):=by
 refine iI (E:=IP aa uc ky) (u:=10) (d:=10) tf (SK aB.none).ok (by kernel_rfl) (fun args r h=> ?_)
 unfold GW at h
 split at h
 ·rename_i fl m f y
  simp only [Option.some.injEq,Prod.mk.injEq,Bool.and_eq_true,decide_eq_true_eq] at h
  obtain ⟨⟨⟨a6,a7⟩,bx⟩,rfl⟩:=h
  obtain ⟨O,J,U,Z⟩:=NN a6
  have M:vW (rowOf m f) y (List.replicate (rowOf m f).length 0) 0 ((rowOf m f).length - 1):= ⟨J,lv _,by simp,U,a7,bx,rfl,rfl⟩
  obtain ⟨_,ab,bD,aE,a1⟩:=OF _ _ _ _ _ M
  have G:=aeC aa uc ky (rowOf m f) y
  simp only [kE,Nat.mul_one,Nat.zero_add,Int.toNat_natCast,List.length_replicate,eq_self,decide_true] at G
  rw [WL _ _ _ _ _ M] at G
  generalize ky (rowOf m f) y (List.replicate (rowOf m f).length 0) 0 ((rowOf m f).length - 1)=q at*
  rw [jg J,dT (show ((rowOf m f).length:Int)≤((rowOf m f).length:Int) by omega),dT (show (4:Int)*((rowOf m f).length:Int)≤281474976710656 by omega),dT (show ((rowOf m f).length:Int)≤9223372036854775807 by omega),aM (show -9223372036854775808≤((rowOf m f).length:Int) - 1∧((rowOf m f).length:Int) - 1≤9223372036854775807 by omega),dT (show q.1.length≤q.1.length by omega),l9 ab (by omega),lZ,aE,a1] at G
  refine ⟨_,_,G,fun B w b0 I=> ?_,fun B w y I=>by rw [Z];exact I⟩
  obtain ⟨y,zs,rfl,q1,q2⟩:=I
  exact ⟨y,_,rfl,lu O q1,q2⟩
 ·cases h
end
end Go.Proofs.YtamcpiicmfielaaGreat.L
namespace Go.Proofs.YtamcpiicmfielaaGreat.L
open Go Go.V Go.RowKit Go.Proofs.YtamcpiicmfielaaGreat.Sp Go.Proofs.YtamcpiicmfielaaGreat.F Go.Proofs.YtamcpiicmfielaaGreatW.PrintWords
open Go.Proofs (Tryz.prog)
noncomputable section
theorem PM (a n:Nat) (ha:a < 4294967296) (G:n < 32):IntKind.u64.wrap ((a:Int)*2 ^ min ((n:Int).toNat) 64)=((a*2 ^ n:Nat):Int):=by
 have h:=(FK a n ha G).1
 unfold shl at h
 rw [eU (by omega)] at h
 exact h
theorem NR (c a n:Nat) (G:c < 2 ^ n) (I:n < 32):cm .or .u32 (c:Int) (((a*2 ^ n % 4294967296:Nat)):Int)=((c+a*2 ^ n % 4294967296:Nat):Int):=(FJ c a n G I).1
abbrev gA:List Bool:= [false,true,false,true,true]
def jx (k:Int) (zs G:List Int) (n i:Int):List AV:=ar 41 [(1, .val (.int .i64 k)),(5, .sl false 129 0 0 zs.length),(13, .lst false 129 G.length (lim G)),(14, .val (.int .i64 n)),(15, .val (.int .i64 i))]
def iX (k:Int) (zs G:List Int) (n i:Int):Hp:= [.row (.ints .u32 zs) 129 .live]
theorem Ub:aH Tryz.prog 171 gA=some (.loop (lb 171 gA)):=by kernel_rfl
theorem VM:aH Tryz.prog 171 (false :: gA)=some (lb 171 gA):=by kernel_rfl
theorem Pr (k:Int) (zs G:List Int) (n i:Int):letI I:=(zs.set (0+i.toNat*1) (cm BinOp.or IntKind.u32 (zs.getD (0+i.toNat*1) (0:Int)) (IntKind.u32.wrap (IntKind.u64.wrap (G.getD i.toNat (0:Int)*(2:Int) ^ min k.toNat 64)))));
  (aO Tryz.prog br 171 [1,5,13,14,15] (lb 171 gA) (false :: gA) (jx k zs G n i) (iX k zs G n i)=(bif decide (i < n) then (bif decide ((0:Int)≤i)&&decide (i < (↑G.length:Int)) then (bif ai IntKind.u64 (G.getD i.toNat (0:Int)) then (bif decide (k < (0:Int)) then none else (bif decide ((0:Int)≤i)&&decide (i < (↑zs.length:Int)) then (bif decide (0+i.toNat*1 < zs.length) then (bif decide ((0:Int)≤i)&&decide (i < (↑zs.length:Int)) then (bif decide (0+i.toNat*1 < zs.length) then (bif ai IntKind.i64 (i+(1:Int)) then (bif decide ((0:Int)≤i+(1:Int))&&decide (i+(1:Int) < (↑zs.length:Int)) then (bif decide (0+(i+(1:Int)).toNat*1 < I.length) then (bif ai IntKind.i64 (i+(1:Int)) then some (.normal,ar 41 [(1,(.val (.int .i64 k))),(5,(.sl false 129 0 0 zs.length)),(13,(.lst false 129 G.length (lim G))),(14,(.val (.int .i64 n))),(15,(.val (.int .i64 (i+(1:Int)))))], [(.row (.ints .u32 (I.set (0+(i+(1:Int)).toNat*1) (IntKind.u32.wrap ((IntKind.u64.wrap (G.getD i.toNat (0:Int)*(2:Int) ^ min k.toNat 64)).fdiv (4294967296:Int))))) 129 .live)]) else none) else none) else none) else none) else none) else none) else none) else none)) else none) else none) else some ((.exit 0),ar 41 [(1,(.val (.int .i64 k))),(5,(.sl false 129 0 0 zs.length)),(13,(.lst false 129 G.length (lim G))),(14,(.val (.int .i64 n))),(15,(.val (.int .i64 i)))], [(.row (.ints .u32 zs) 129 .live)]))):=by kernel_rfl
theorem Qr {k:Int} {zs G:List Int} {n i:Int} {e:Ex} {T:List AV} {H:Hp} (h:aO Tryz.prog br 171 [1,5,13,14,15] (lb 171 gA) (false :: gA) (jx k zs G n i) (iX k zs G n i)=some (e,T,H)):V.Ends Tryz.prog false 0 0 (lb 171 gA) (jx k zs G n i) (iX k zs G n i) e T H:=
 bF (aJ _) aN mixed VM h
def vU (k:Int) (zs G:List Int) (n i:Int):Prop:=aI G∧aI zs∧zs=List.replicate (G.length+1) 0∧G.length≤17592186044415∧n=G.length∧i=0∧∃ a:Nat,k=a∧a < 32
def zC (k:Int) (zs G:List Int) (n i:Int) (q:List Int×Int):Prop:=aI q.1∧q.1.length=G.length+1∧vL q.1=2 ^ k.toNat*vL G
theorem aeA (k:Nat) (G:List Int) (b5:aI G) (hb:G.length≤17592186044415) (O:k < 32) (d:Nat):∀ (i c:Nat) (out:List Int),i+d=G.length→aI out→out.length=G.length+1→(∃ h:i < out.length,out[i]=(c:Int))→c < 2 ^ k→
  dQ (vL (out.take i)+4294967296 ^ i*c=2 ^ k*vL (G.take i))→
  ∃ q:List Int×Int,av Tryz.prog (lb 171 gA) (jx k out G G.length i) (iX k out G G.length i) (.exit 0) (jx k q.1 G G.length q.2) (iX k q.1 G G.length q.2)∧aI q.1∧q.1.length=G.length+1∧vL q.1=2 ^ k*vL G:=by
 induction d with
 | zero=>
  intro i c out hi aE ab I Z b0
  obtain ⟨M,I⟩:=I
  have c7:i=G.length:=by omega
  refine ⟨(out,(i:Int)), .last (Qr ?_) (by intro h;cases h),aE,ab, ?_⟩
  ·rw [Pr,dF (show ¬ ((i:Int) < G.length) by omega)]
   rfl
  ·have J:=la out i M
   rw [List.take_of_length_le (by omega),I,Int.toNat_natCast,b0.out,List.take_of_length_le (by omega)] at J
   exact J
 | succ d b1=>
  intro i c out hi aE ab I Z a6
  obtain ⟨M,I⟩:=I
  have bx:i < G.length:=by omega
  have b4:i+1 < out.length:=by omega
  obtain ⟨a,ha,b3,ch⟩:=cH b5 i bx
  have ct:out.getD i 0=(c:Int):=by grind
  have U:=dQ.mk (la G i bx)
  rw [b3,Int.toNat_natCast] at U
  have bD:=PM a k ha O
  have dx:=(FK a k ha O).2
  have b7:=NR c a k Z O
  have b6:=(FJ c a k Z O).2
  have b2:a*2 ^ k / 4294967296 < 2 ^ k:=by
   grind
  have c5:(2:Nat) ^ k≤2 ^ 31:=Nat.pow_le_pow_right (by decide) (by omega)
  have c6:(2:Nat) ^ 31=2147483648:=rfl
  obtain ⟨q,J,a7⟩:=b1 (i+1) (a*2 ^ k / 4294967296) ((out.set i ((c+a*2 ^ k % 4294967296:Nat):Int)).set (i+1) ((a*2 ^ k / 4294967296:Nat):Int)) (by omega)
   (fC (fC aE _ _ (Int.natCast_nonneg _) (Int.ofNat_lt.2 b6)) _ _ (Int.natCast_nonneg _) (by grind)) (by simp [ab]) ⟨by grind,List.getElem_set_self _⟩ b2 (by
   constructor
   rw [List.take_set_of_le (Nat.le_refl _),AG _ _ M,sW,List.length_take,Nat.min_eq_left (by omega),U.out,Int.toNat_natCast,Nat.pow_succ]
   have b0:=a6.out
   have c4:4294967296 ^ i*(a*2 ^ k % 4294967296)+4294967296 ^ i*4294967296*(a*2 ^ k / 4294967296)=4294967296 ^ i*(a*2 ^ k):=by
    rw [Nat.mul_assoc,← Nat.mul_add,Nat.mod_add_div]
   grind)
  refine ⟨q, .more (Qr ?_) J,a7⟩
  clear J a7 b1 a6 U
  have a1:=Pr k out G G.length i
  have e1:(i:Int)+1=((i+1:Nat):Int):=by omega
  generalize c0:a*2 ^ k / 4294967296=z at*
  have c3:z % 4294967296=z:=Nat.mod_eq_of_lt (by omega)
  simp only [e1,Int.toNat_natCast,Nat.zero_add,Nat.mul_one] at a1
  simp only [Int.toNat_natCast] at bD
  rw [ch,ct,bD,dH,b7,jK,c0,dH,c3,List.length_set,dj (show 0≤(a:Int)∧(a:Int)≤18446744073709551615 by omega),bH _ (by omega),dT (show (i:Int) < (G.length:Int) by omega),dT (show (0:Int)≤(i:Int) by omega),dT (show (i:Int) < (out.length:Int) by omega),dT M,dF (show ¬ (k:Int) < 0 by omega),dT (show (0:Int)≤((i+1:Nat):Int) by omega),dT (show ((i+1:Nat):Int) < (out.length:Int) by omega),dT b4] at a1
  rw [a1]
  unfold jx iX
  grind
theorem aa9 (k:Int) (zs G:List Int) (n i:Int) (h:vU k zs G n i):∃ q:List Int×Int,av Tryz.prog (lb 171 gA) (jx k zs G n i) (iX k zs G n i) (.exit 0) (jx k q.1 G n q.2) (iX k q.1 G n q.2)∧zC k zs G n i q:=by
 obtain ⟨I,M,rfl,J,rfl,rfl,a,rfl,ha⟩:=h
 unfold zC
 rw [Int.toNat_natCast]
 exact aeA a G I J ha G.length 0 0 _ (by omega) (lv _) (by simp) ⟨by simp,by simp⟩ (Nat.two_pow_pos a) ⟨by simp [cF]⟩
def HR (O:Int→List Int→List Int→Int→Int→Bool) (J:Int→List Int→List Int→Int→Int→List Int×Int) (T:List AV) (H:Hp):Option (Bool×Ex×List AV×Hp):=
 match al T 1,al T 5,al T 13,al T 14,al T 15,H with
 | .val (.int .i64 k), .sl false 129 0 0 M, .lst false 129 I G, .val (.int .i64 n), .val (.int .i64 i), [.row (.ints .u32 zs) 129 .live]=>bif T.length==41 then some (okB I G&&decide (M=zs.length)&&O k zs (rowOf I G) n i, .exit 0,jx k ((J k zs (rowOf I G) n i).1) (rowOf I G) n ((J k zs (rowOf I G) n i).2),iX k ((J k zs (rowOf I G) n i).1) (rowOf I G) n ((J k zs (rowOf I G) n i).2)) else none
 | _,_,_,_,_,_=>none
abbrev BS:Type:=Int→List Int→List Int→Int→Int→Bool
abbrev Bw:Type:=Int→List Int→List Int→Int→Int→List Int×Int
def Kf (G:BS) (I:Bw) (L:aC):aC:=bp 0 171 gA [1,5,13,14,15] (HR G I) L
def nz (k:Int) (zs G:List Int) (n i:Int):List Int×Int:=Classical.epsilon fun ρ=>av Tryz.prog (lb 171 gA) (jx k zs G n i) (iX k zs G n i) (.exit 0) (jx k (ρ.1) G n (ρ.2)) (iX k (ρ.1) G n (ρ.2))∧zC k zs G n i ρ
theorem OD (k:Int) (zs G:List Int) (n i:Int) (h:vU k zs G n i):av Tryz.prog (lb 171 gA) (jx k zs G n i) (iX k zs G n i) (.exit 0) (jx k ((nz k zs G n i).1) G n ((nz k zs G n i).2)) (iX k ((nz k zs G n i).1) G n ((nz k zs G n i).2))∧zC k zs G n i (nz k zs G n i):=Classical.epsilon_spec (aa9 k zs G n i h)
def yh (k:Int) (zs G:List Int) (n i:Int):Bool:= @decide (vU k zs G n i) (Classical.propDecidable _)
theorem WJ (k:Int) (zs G:List Int) (n i:Int) (h:vU k zs G n i):yh k zs G n i=true:= @decide_eq_true _ (Classical.propDecidable _) h
theorem agL (T:List AV) (H:Hp) (e:Ex) (J:List AV) (I:Hp) (h:HR yh nz T H=some (true,e,J,I)):V.Ends Tryz.prog false 0 0 (.loop (lb 171 gA)) T H e J I:=by
 unfold HR at h
 split at h
 ·rename_i k b2 b1 U n i zs Z a6 ab aE a1
  rw [Bool.cond_eq_ite] at h
  split at h
  ·rename_i M
   rw [beq_iff_eq] at M
   simp only [Option.some.injEq,Prod.mk.injEq,Bool.and_eq_true,decide_eq_true_eq] at h
   obtain ⟨⟨⟨k1,bx⟩,bD⟩,rfl,rfl,rfl⟩:=h
   have b0:= @of_decide_eq_true _ (Classical.propDecidable _) bD
   refine Ends.pre (OD k zs (rowOf b1 U) n i b0).1.ends (fun α B w D b3 a7=>bq M (fun p O y G=> ?_) a7)
   simp only [List.mem_cons,List.not_mem_nil,or_false] at O
   rcases O with rfl | rfl | rfl | rfl | rfl
   ·rw [Z] at G;exact G
   ·rw [a6] at G;rw [← bx];exact G
   ·rw [ab] at G;rw [cA];exact cE cy k1 G
   ·rw [aE] at G;exact G
   ·rw [a1] at G;exact G
  ·cases h
 ·cases h
theorem SI {L:aC} (h:aB Tryz.prog L):aB Tryz.prog (Kf yh nz L):=h.bz Ub agL
abbrev gB:List Bool:= [false,true,false,true,true]
def jy (k:Int) (zs G:List Int) (n i:Int) (us:List Int):List AV:=ar 41 [(1, .val (.int .i64 k)),(5, .sl false 129 1 0 zs.length),(13, .lst false 129 G.length (lim G)),(14, .val (.int .i64 n)),(15, .val (.int .i64 i))]
def iY (k:Int) (zs G:List Int) (n i:Int) (us:List Int):Hp:= [.row (.ints .u32 us) 129 .live, .row (.ints .u32 zs) 129 .live]
theorem Uc:aH Tryz.prog 171 gB=some (.loop (lb 171 gB)):=by kernel_rfl
theorem VN:aH Tryz.prog 171 (false :: gB)=some (lb 171 gB):=by kernel_rfl
theorem Ps (k:Int) (zs G:List Int) (n i:Int) (us:List Int):letI I:=(zs.set (0+i.toNat*1) (cm BinOp.or IntKind.u32 (zs.getD (0+i.toNat*1) (0:Int)) (IntKind.u32.wrap (IntKind.u64.wrap (G.getD i.toNat (0:Int)*(2:Int) ^ min k.toNat 64)))));
  (dN Tryz.prog br 1 171 [1,5,13,14,15] (lb 171 gB) (false :: gB) (jy k zs G n i us) (iY k zs G n i us)=(bif decide (i < n) then (bif decide ((0:Int)≤i)&&decide (i < (↑G.length:Int)) then (bif ai IntKind.u64 (G.getD i.toNat (0:Int)) then (bif decide (k < (0:Int)) then none else (bif decide ((0:Int)≤i)&&decide (i < (↑zs.length:Int)) then (bif decide (0+i.toNat*1 < zs.length) then (bif decide ((0:Int)≤i)&&decide (i < (↑zs.length:Int)) then (bif decide (0+i.toNat*1 < zs.length) then (bif ai IntKind.i64 (i+(1:Int)) then (bif decide ((0:Int)≤i+(1:Int))&&decide (i+(1:Int) < (↑zs.length:Int)) then (bif decide (0+(i+(1:Int)).toNat*1 < I.length) then (bif ai IntKind.i64 (i+(1:Int)) then some (.normal,ar 41 [(1,(.val (.int .i64 k))),(5,(.sl false 129 1 0 zs.length)),(13,(.lst false 129 G.length (lim G))),(14,(.val (.int .i64 n))),(15,(.val (.int .i64 (i+(1:Int)))))], [(.row (.ints .u32 us) 129 .live),(.row (.ints .u32 (I.set (0+(i+(1:Int)).toNat*1) (IntKind.u32.wrap ((IntKind.u64.wrap (G.getD i.toNat (0:Int)*(2:Int) ^ min k.toNat 64)).fdiv (4294967296:Int))))) 129 .live)]) else none) else none) else none) else none) else none) else none) else none) else none)) else none) else none) else some ((.exit 0),ar 41 [(1,(.val (.int .i64 k))),(5,(.sl false 129 1 0 zs.length)),(13,(.lst false 129 G.length (lim G))),(14,(.val (.int .i64 n))),(15,(.val (.int .i64 i)))], [(.row (.ints .u32 us) 129 .live),(.row (.ints .u32 zs) 129 .live)]))):=by kernel_rfl
theorem Qs {k:Int} {zs G:List Int} {n i:Int} {us:List Int} {e:Ex} {T:List AV} {H:Hp} (h:dN Tryz.prog br 1 171 [1,5,13,14,15] (lb 171 gB) (false :: gB) (jy k zs G n i us) (iY k zs G n i us)=some (e,T,H)):V.Ends Tryz.prog false 1 0 (lb 171 gB) (jy k zs G n i us) (iY k zs G n i us) e T H:=
 qp (aJ _) aN mixed VN h
def vV (k:Int) (zs G:List Int) (n i:Int) (us:List Int):Prop:=aI G∧aI zs∧zs=List.replicate (G.length+1) 0∧G.length≤17592186044415∧n=G.length∧i=0∧∃ a:Nat,k=a∧a < 32
def zD (k:Int) (zs G:List Int) (n i:Int) (us:List Int) (q:List Int×Int):Prop:=aI q.1∧q.1.length=G.length+1∧vL q.1=2 ^ k.toNat*vL G
theorem aeB (k:Nat) (G:List Int) (b5:aI G) (hb:G.length≤17592186044415) (O:k < 32) (us:List Int) (d:Nat):∀ (i c:Nat) (out:List Int),i+d=G.length→aI out→out.length=G.length+1→(∃ h:i < out.length,out[i]=(c:Int))→c < 2 ^ k→
  dQ (vL (out.take i)+4294967296 ^ i*c=2 ^ k*vL (G.take i))→
  ∃ q:List Int×Int,bT Tryz.prog 1 (lb 171 gB) (jy k out G G.length i us) (iY k out G G.length i us) (.exit 0) (jy k q.1 G G.length q.2 us) (iY k q.1 G G.length q.2 us)∧aI q.1∧q.1.length=G.length+1∧vL q.1=2 ^ k*vL G:=by
 induction d with
 | zero=>
  intro i c out hi aE ab I Z b0
  obtain ⟨M,I⟩:=I
  have c7:i=G.length:=by omega
  refine ⟨(out,(i:Int)), .last (Qs ?_) (by intro h;cases h),aE,ab, ?_⟩
  ·rw [Ps,dF (show ¬ ((i:Int) < G.length) by omega)]
   rfl
  ·have J:=la out i M
   rw [List.take_of_length_le (by omega),I,Int.toNat_natCast,b0.out,List.take_of_length_le (by omega)] at J
   exact J
 | succ d b1=>
  intro i c out hi aE ab I Z a6
  obtain ⟨M,I⟩:=I
  have bx:i < G.length:=by omega
  have b4:i+1 < out.length:=by omega
  obtain ⟨a,ha,b3,ch⟩:=cH b5 i bx
  have ct:out.getD i 0=(c:Int):=by grind
  have U:=dQ.mk (la G i bx)
  rw [b3,Int.toNat_natCast] at U
  have bD:=PM a k ha O
  have dx:=(FK a k ha O).2
  have b7:=NR c a k Z O
  have b6:=(FJ c a k Z O).2
  have b2:a*2 ^ k / 4294967296 < 2 ^ k:=by
   grind
  have c5:(2:Nat) ^ k≤2 ^ 31:=Nat.pow_le_pow_right (by decide) (by omega)
  have c6:(2:Nat) ^ 31=2147483648:=rfl
  obtain ⟨q,J,a7⟩:=b1 (i+1) (a*2 ^ k / 4294967296) ((out.set i ((c+a*2 ^ k % 4294967296:Nat):Int)).set (i+1) ((a*2 ^ k / 4294967296:Nat):Int)) (by omega)
   (fC (fC aE _ _ (Int.natCast_nonneg _) (Int.ofNat_lt.2 b6)) _ _ (Int.natCast_nonneg _) (by grind)) (by simp [ab]) ⟨by grind,List.getElem_set_self _⟩ b2 (by
   constructor
   rw [List.take_set_of_le (Nat.le_refl _),AG _ _ M,sW,List.length_take,Nat.min_eq_left (by omega),U.out,Int.toNat_natCast,Nat.pow_succ]
   have b0:=a6.out
   have c4:4294967296 ^ i*(a*2 ^ k % 4294967296)+4294967296 ^ i*4294967296*(a*2 ^ k / 4294967296)=4294967296 ^ i*(a*2 ^ k):=by
    rw [Nat.mul_assoc,← Nat.mul_add,Nat.mod_add_div]
   grind)
  refine ⟨q, .more (Qs ?_) J,a7⟩
  clear J a7 b1 a6 U
  have a1:=Ps k out G G.length i us
  have e1:(i:Int)+1=((i+1:Nat):Int):=by omega
  generalize c0:a*2 ^ k / 4294967296=z at*
  have c3:z % 4294967296=z:=Nat.mod_eq_of_lt (by omega)
  simp only [e1,Int.toNat_natCast,Nat.zero_add,Nat.mul_one] at a1
  simp only [Int.toNat_natCast] at bD
  rw [ch,ct,bD,dH,b7,jK,c0,dH,c3,List.length_set,dj (show 0≤(a:Int)∧(a:Int)≤18446744073709551615 by omega),bH _ (by omega),dT (show (i:Int) < (G.length:Int) by omega),dT (show (0:Int)≤(i:Int) by omega),dT (show (i:Int) < (out.length:Int) by omega),dT M,dF (show ¬ (k:Int) < 0 by omega),dT (show (0:Int)≤((i+1:Nat):Int) by omega),dT (show ((i+1:Nat):Int) < (out.length:Int) by omega),dT b4] at a1
  rw [a1]
  unfold jy iY
  grind
theorem aba (k:Int) (zs G:List Int) (n i:Int) (us:List Int) (h:vV k zs G n i us):∃ q:List Int×Int,bT Tryz.prog 1 (lb 171 gB) (jy k zs G n i us) (iY k zs G n i us) (.exit 0) (jy k q.1 G n q.2 us) (iY k q.1 G n q.2 us)∧zD k zs G n i us q:=by
 obtain ⟨I,M,rfl,J,rfl,rfl,a,rfl,ha⟩:=h
 unfold zD
 rw [Int.toNat_natCast]
 exact aeB a G I J ha us G.length 0 0 _ (by omega) (lv _) (by simp) ⟨by simp,by simp⟩ (Nat.two_pow_pos a) ⟨by simp [cF]⟩
def HU (O:Int→List Int→List Int→Int→Int→List Int→Bool) (J:Int→List Int→List Int→Int→Int→List Int→List Int×Int) (T:List AV) (H:Hp):Option (Bool×Ex×List AV×Hp):=
 match al T 1,al T 5,al T 13,al T 14,al T 15,H with
 | .val (.int .i64 k), .sl false 129 1 0 M, .lst false 129 I G, .val (.int .i64 n), .val (.int .i64 i), [.row (.ints .u32 us) 129 .live, .row (.ints .u32 zs) 129 .live]=>bif T.length==41 then some (okB I G&&decide (M=zs.length)&&O k zs (rowOf I G) n i us, .exit 0,jy k ((J k zs (rowOf I G) n i us).1) (rowOf I G) n ((J k zs (rowOf I G) n i us).2) us,iY k ((J k zs (rowOf I G) n i us).1) (rowOf I G) n ((J k zs (rowOf I G) n i us).2) us) else none
 | _,_,_,_,_,_=>none
abbrev BU:Type:=Int→List Int→List Int→Int→Int→List Int→Bool
abbrev Bx:Type:=Int→List Int→List Int→Int→Int→List Int→List Int×Int
def Kg (G:BU) (I:Bx) (L:aC):aC:=bp 1 171 gB [1,5,13,14,15] (HU G I) L
def nA (k:Int) (zs G:List Int) (n i:Int) (us:List Int):List Int×Int:=Classical.epsilon fun ρ=>bT Tryz.prog 1 (lb 171 gB) (jy k zs G n i us) (iY k zs G n i us) (.exit 0) (jy k (ρ.1) G n (ρ.2) us) (iY k (ρ.1) G n (ρ.2) us)∧zD k zs G n i us ρ
theorem OE (k:Int) (zs G:List Int) (n i:Int) (us:List Int) (h:vV k zs G n i us):bT Tryz.prog 1 (lb 171 gB) (jy k zs G n i us) (iY k zs G n i us) (.exit 0) (jy k ((nA k zs G n i us).1) G n ((nA k zs G n i us).2) us) (iY k ((nA k zs G n i us).1) G n ((nA k zs G n i us).2) us)∧zD k zs G n i us (nA k zs G n i us):=Classical.epsilon_spec (aba k zs G n i us h)
def yi (k:Int) (zs G:List Int) (n i:Int) (us:List Int):Bool:= @decide (vV k zs G n i us) (Classical.propDecidable _)
theorem WK (k:Int) (zs G:List Int) (n i:Int) (us:List Int) (h:vV k zs G n i us):yi k zs G n i us=true:= @decide_eq_true _ (Classical.propDecidable _) h
theorem agM (T:List AV) (H:Hp) (e:Ex) (J:List AV) (I:Hp) (h:HU yi nA T H=some (true,e,J,I)):V.Ends Tryz.prog false 1 0 (.loop (lb 171 gB)) T H e J I:=by
 unfold HU at h
 split at h
 ·rename_i k b2 b1 U n i us zs Z a6 ab aE a1
  rw [Bool.cond_eq_ite] at h
  split at h
  ·rename_i M
   rw [beq_iff_eq] at M
   simp only [Option.some.injEq,Prod.mk.injEq,Bool.and_eq_true,decide_eq_true_eq] at h
   obtain ⟨⟨⟨k1,bx⟩,bD⟩,rfl,rfl,rfl⟩:=h
   have b0:= @of_decide_eq_true _ (Classical.propDecidable _) bD
   refine Ends.pre (OE k zs (rowOf b1 U) n i us b0).1.ends (fun α B w D b3 a7=>bq M (fun p O y G=> ?_) a7)
   simp only [List.mem_cons,List.not_mem_nil,or_false] at O
   rcases O with rfl | rfl | rfl | rfl | rfl
   ·rw [Z] at G;exact G
   ·rw [a6] at G;rw [← bx];exact G
   ·rw [ab] at G;rw [cA];exact cE cy k1 G
   ·rw [aE] at G;exact G
   ·rw [a1] at G;exact G
  ·cases h
 ·cases h
theorem SJ {L:aC} (h:aB Tryz.prog L):aB Tryz.prog (Kg yi nA L):=h.bz Uc agM
abbrev gG:List Bool:= [false,true,false,true,true]
def iv (G:List Int) (k:Int) (zs:List Int) (n i:Int):List AV:=ar 45 [(0, .lst false 129 G.length (lim G)),(1, .val (.int .i64 k)),(5, .sl false 129 0 0 zs.length),(12, .val (.int .i64 n)),(13, .val (.int .i64 i))]
def ic (G:List Int) (k:Int) (zs:List Int) (n i:Int):Hp:= [.row (.ints .u32 zs) 129 .live]
theorem Ui:aH Tryz.prog 158 gG=some (.loop (lb 158 gG)):=by kernel_rfl
theorem VS:aH Tryz.prog 158 (false :: gG)=some (lb 158 gG):=by kernel_rfl
theorem Pw (G:List Int) (k:Int) (zs:List Int) (n i:Int):
  (aO Tryz.prog br 158 [0,1,5,12,13] (lb 158 gG) (false :: gG) (iv G k zs n i) (ic G k zs n i)=(bif decide (i < n) then (bif decide ((0:Int)≤i)&&decide (i < (↑G.length:Int)) then (bif ai IntKind.u64 (G.getD i.toNat (0:Int)) then (bif ai IntKind.i64 (i+(1:Int)) then (bif decide (i+(1:Int) < (↑G.length:Int)) then (bif ai IntKind.i64 (i+(1:Int)) then (bif decide ((0:Int)≤i+(1:Int))&&decide (i+(1:Int) < (↑G.length:Int)) then (bif ai IntKind.u64 (G.getD (i+(1:Int)).toNat (0:Int)) then (bif decide (k < (0:Int)) then none else (bif decide ((0:Int)≤i)&&decide (i < (↑zs.length:Int)) then (bif decide (0+i.toNat*1 < zs.length) then (bif ai IntKind.i64 (i+(1:Int)) then some (.normal,ar 45 [(0,(.lst false 129 G.length (lim G))),(1,(.val (.int .i64 k))),(5,(.sl false 129 0 0 zs.length)),(12,(.val (.int .i64 n))),(13,(.val (.int .i64 (i+(1:Int)))))], [(.row (.ints .u32 (zs.set (0+i.toNat*1) (IntKind.u32.wrap ((cm BinOp.or IntKind.u64 (G.getD i.toNat (0:Int)) (IntKind.u64.wrap (G.getD (i+(1:Int)).toNat (0:Int)*(4294967296:Int)))).fdiv ((2:Int) ^ min k.toNat 64))))) 129 .live)]) else none) else none) else none)) else none) else none) else none) else (bif decide (k < (0:Int)) then none else (bif decide ((0:Int)≤i)&&decide (i < (↑zs.length:Int)) then (bif decide (0+i.toNat*1 < zs.length) then (bif ai IntKind.i64 (i+(1:Int)) then some (.normal,ar 45 [(0,(.lst false 129 G.length (lim G))),(1,(.val (.int .i64 k))),(5,(.sl false 129 0 0 zs.length)),(12,(.val (.int .i64 n))),(13,(.val (.int .i64 (i+(1:Int)))))], [(.row (.ints .u32 (zs.set (0+i.toNat*1) (IntKind.u32.wrap ((G.getD i.toNat (0:Int)).fdiv ((2:Int) ^ min k.toNat 64))))) 129 .live)]) else none) else none) else none))) else none) else none) else none) else some ((.exit 0),ar 45 [(0,(.lst false 129 G.length (lim G))),(1,(.val (.int .i64 k))),(5,(.sl false 129 0 0 zs.length)),(12,(.val (.int .i64 n))),(13,(.val (.int .i64 i)))], [(.row (.ints .u32 zs) 129 .live)]))):=by kernel_rfl
theorem Gk {G:List Int} {k:Int} {zs:List Int} {n i:Int} {e:Ex} {T:List AV} {H:Hp} (h:aO Tryz.prog br 158 [0,1,5,12,13] (lb 158 gG) (false :: gG) (iv G k zs n i) (ic G k zs n i)=some (e,T,H)):V.Ends Tryz.prog false 0 0 (lb 158 gG) (iv G k zs n i) (ic G k zs n i) e T H:=
 bF (aJ _) aN mixed VS h
def v8 (G:List Int) (k:Int) (zs:List Int) (n i:Int):Prop:=aI G∧aI zs∧zs.length=G.length∧G.length≤17592186044416∧n=G.length∧i=0∧∃ a:Nat,k=a∧a≤32
def zG (G:List Int) (k:Int) (zs:List Int) (n i:Int) (q:List Int×Int):Prop:=aI q.1∧q.1.length=G.length∧vL q.1=vL G / 2 ^ k.toNat
theorem aeE (z k:Nat) (G:k≤32):((z:Nat):Int).fdiv (2 ^ min ((k:Int).toNat) 64)=((z / 2 ^ k:Nat):Int):=by
 grind
theorem UG (a y:Nat) (ha:a < 4294967296) (G:y < 4294967296):cm .or .u64 (a:Int) (IntKind.u64.wrap ((y:Int)*4294967296))=((a+y*4294967296:Nat):Int):=by
 have h:Go.bits .or .u64 ((a:Nat):Int) ((y*4294967296:Nat):Int)=((a+y*4294967296:Nat):Int):=by
  rw [u64_or_nat _ _ (by omega) (by omega),Nat.or_comm,nat_join 32 _ _ (by omega) (by omega),Nat.add_comm]
 rw [show (y:Int)*4294967296=((y*4294967296:Nat):Int) from rfl,eU (by omega)]
 exact h
theorem ahb (G:List Int) (k:Nat) (O:aI G) (hb:G.length≤17592186044416) (bx:k≤32) (d:Nat):∀ (i:Nat) (out:List Int),i+d=G.length→aI out→out.length=G.length→dQ (vL (out.take i)=vL G / 2 ^ k % 4294967296 ^ i)→
  ∃ q:List Int×Int,av Tryz.prog (lb 158 gG) (iv G k out G.length i) (ic G k out G.length i) (.exit 0) (iv G k q.1 G.length q.2) (ic G k q.1 G.length q.2)∧aI q.1∧q.1.length=G.length∧vL q.1=vL G / 2 ^ k:=by
 induction d with
 | zero=>
  intro i out hi U b4 Z
  refine ⟨(out,(i:Int)), .last (Gk ?_) (by grind),U,b4, ?_⟩
  ·rw [Pw,dF (show ¬ ((i:Int) < G.length) by omega)]
   rfl
  ·have Z:=Z.out
   rw [List.take_of_length_le (by omega),Nat.mod_eq_of_lt] at Z
   ·exact Z
   ·refine Nat.lt_of_le_of_lt (Nat.div_le_self _ _) ?_
    have:=dP O
    grind
 | succ d ab=>
  intro i out hi U b4 a1
  have b1:i < G.length:=by omega
  have b2:i < out.length:=by omega
  obtain ⟨a,ha,b6,ch⟩:=cH O i b1
  have b5:G.drop i=(a:Int) :: G.drop (i+1):=by rw [List.drop_eq_getElem_cons b1,b6]
  have aE:∀ y a6:Nat,y < 4294967296→vL (G.drop (i+1))=y+4294967296*a6→
    vL ((out.set i (((a+y*4294967296) / 2 ^ k % 4294967296:Nat):Int)).take (i+1))=vL G / 2 ^ k % 4294967296 ^ (i+1):=by
   intro y a6 b0 c0
   rw [AG _ _ b2,sW,List.length_take,Nat.min_eq_left (by omega),Int.toNat_natCast,a1.out,mod_pow_succ]
   rw [W0 (vL G) i k a y a6 (by rw [W7 O i (by omega),b5,cj,c0,Int.toNat_natCast]) bx]
  have I:=Pw G k out G.length i
  have e1:(i:Int)+1=((i+1:Nat):Int):=by omega
  simp only [e1,Int.toNat_natCast,Nat.zero_add,Nat.mul_one] at I
  have bD:=aeE
  simp only [Int.toNat_natCast] at bD
  rw [ch,dj (show 0≤(a:Int)∧(a:Int)≤18446744073709551615 by omega),bH _ (by omega),dT (show (i:Int) < (G.length:Int) by omega),dT (show (0:Int)≤(i:Int) by omega),dF (show ¬ (k:Int) < 0 by omega),dT (show (i:Int) < (out.length:Int) by omega),dT b2] at I
  by_cases b3:i+1 < G.length
  ·obtain ⟨y,b0,b7,ct⟩:=cH O (i+1) b3
   have a7:vL (G.drop (i+1))=y+4294967296*vL (G.drop (i+2)):=by rw [List.drop_eq_getElem_cons b3,b7,cj,Int.toNat_natCast]
   obtain ⟨q,J,M⟩:=ab (i+1) _ (by omega) (fC U i _ (lW ((a+y*4294967296) / 2 ^ k)).1 (lW _).2) (by simp_all) ⟨aE y _ b0 a7⟩
   refine ⟨q, .more (Gk ?_) J,M⟩
   clear J M ab a1 aE
   rw [dT (show ((i+1:Nat):Int) < (G.length:Int) by omega),ct,dj (show 0≤(y:Int)∧(y:Int)≤18446744073709551615 by omega),dT (show (0:Int)≤((i+1:Nat):Int) by omega),UG a y ha b0,bD _ _ bx,dH] at I
   rw [I]
   unfold iv ic
   grind
  ·have a7:vL (G.drop (i+1))=0+4294967296*0:=by rw [List.drop_of_length_le (by omega)];rfl
   obtain ⟨q,J,M⟩:=ab (i+1) _ (by omega) (fC U i _ (lW ((a+0*4294967296) / 2 ^ k)).1 (lW _).2) (by grind) ⟨aE 0 _ (by omega) a7⟩
   refine ⟨q, .more (Gk ?_) J,M⟩
   clear J M ab a1 aE
   rw [dF (show ¬ ((i+1:Nat):Int) < (G.length:Int) by omega),bD _ _ bx,dH] at I
   rw [I,Nat.zero_mul,Nat.add_zero]
   unfold iv ic
   grind
theorem abf (G:List Int) (k:Int) (zs:List Int) (n i:Int) (h:v8 G k zs n i):∃ q:List Int×Int,av Tryz.prog (lb 158 gG) (iv G k zs n i) (ic G k zs n i) (.exit 0) (iv G k q.1 n q.2) (ic G k q.1 n q.2)∧zG G k zs n i q:=by
 obtain ⟨I,J,M,O,rfl,rfl,a,rfl,ha⟩:=h
 unfold zG
 rw [Int.toNat_natCast]
 exact ahb G a I O ha G.length 0 zs (by omega) J M ⟨by rw [List.take_zero,cF,Nat.pow_zero,Nat.mod_one]⟩
def H3 (O:List Int→Int→List Int→Int→Int→Bool) (J:List Int→Int→List Int→Int→Int→List Int×Int) (T:List AV) (H:Hp):Option (Bool×Ex×List AV×Hp):=
 match al T 0,al T 1,al T 5,al T 12,al T 13,H with
 | .lst false 129 I G, .val (.int .i64 k), .sl false 129 0 0 M, .val (.int .i64 n), .val (.int .i64 i), [.row (.ints .u32 zs) 129 .live]=>bif T.length==45 then some (okB I G&&decide (M=zs.length)&&O (rowOf I G) k zs n i, .exit 0,iv (rowOf I G) k ((J (rowOf I G) k zs n i).1) n ((J (rowOf I G) k zs n i).2),ic (rowOf I G) k ((J (rowOf I G) k zs n i).1) n ((J (rowOf I G) k zs n i).2)) else none
 | _,_,_,_,_,_=>none
abbrev BY:Type:=List Int→Int→List Int→Int→Int→Bool
abbrev BC:Type:=List Int→Int→List Int→Int→Int→List Int×Int
def Kk (G:BY) (I:BC) (L:aC):aC:=bp 0 158 gG [0,1,5,12,13] (H3 G I) L
def mm (G:List Int) (k:Int) (zs:List Int) (n i:Int):List Int×Int:=Classical.epsilon fun ρ=>av Tryz.prog (lb 158 gG) (iv G k zs n i) (ic G k zs n i) (.exit 0) (iv G k (ρ.1) n (ρ.2)) (ic G k (ρ.1) n (ρ.2))∧zG G k zs n i ρ
theorem OJ (G:List Int) (k:Int) (zs:List Int) (n i:Int) (h:v8 G k zs n i):av Tryz.prog (lb 158 gG) (iv G k zs n i) (ic G k zs n i) (.exit 0) (iv G k ((mm G k zs n i).1) n ((mm G k zs n i).2)) (ic G k ((mm G k zs n i).1) n ((mm G k zs n i).2))∧zG G k zs n i (mm G k zs n i):=Classical.epsilon_spec (abf G k zs n i h)
def uh (G:List Int) (k:Int) (zs:List Int) (n i:Int):Bool:= @decide (v8 G k zs n i) (Classical.propDecidable _)
theorem WQ (G:List Int) (k:Int) (zs:List Int) (n i:Int) (h:v8 G k zs n i):uh G k zs n i=true:= @decide_eq_true _ (Classical.propDecidable _) h
theorem agR (T:List AV) (H:Hp) (e:Ex) (J:List AV) (I:Hp) (h:H3 uh mm T H=some (true,e,J,I)):V.Ends Tryz.prog false 0 0 (.loop (lb 158 gG)) T H e J I:=by
 unfold H3 at h
 split at h
 ·rename_i b1 U k b2 n i zs Z ab a6 aE a1
  rw [Bool.cond_eq_ite] at h
  split at h
  ·rename_i M
   rw [beq_iff_eq] at M
   simp only [Option.some.injEq,Prod.mk.injEq,Bool.and_eq_true,decide_eq_true_eq] at h
   obtain ⟨⟨⟨k1,bx⟩,bD⟩,rfl,rfl,rfl⟩:=h
   have b0:= @of_decide_eq_true _ (Classical.propDecidable _) bD
   refine Ends.pre (OJ (rowOf b1 U) k zs n i b0).1.ends (fun α B w D b3 a7=>bq M (fun p O y G=> ?_) a7)
   simp only [List.mem_cons,List.not_mem_nil,or_false] at O
   rcases O with rfl | rfl | rfl | rfl | rfl
   ·rw [Z] at G;rw [cA];exact cE cy k1 G
   ·rw [ab] at G;exact G
   ·rw [a6] at G;rw [← bx];exact G
   ·rw [aE] at G;exact G
   ·rw [a1] at G;exact G
  ·cases h
 ·cases h
theorem SO {L:aC} (h:aB Tryz.prog L):aB Tryz.prog (Kk uh mm L):=h.bz Ui agR
def IT (S:Sg) (G:BY) (I:BC):Env:= ⟨CT S,au,Kk G I aq⟩
theorem aha (S:Sg) (M:BY) (O:BC) (G:List Int) (k:Int):letI J:=(List.replicate (↑G.length:Int).toNat (0:Int));letI I:=(O (rowOf G.length (lim G)) k J (↑G.length:Int) (0:Int));
  (aF Tryz.prog (IT S M O) 10 10 158 [.lst false 129 G.length (lim G), .val (.int .i64 k)]=(bif decide ((↑G.length:Int)≤(↑G.length:Int))&&decide ((4:Int)*(↑G.length:Int)≤(281474976710656:Int))&&decide ((↑G.length:Int)≤(9223372036854775807:Int)) then (bif okB G.length (lim G)&&decide ((↑G.length:Int).toNat=J.length)&&M (rowOf G.length (lim G)) k J (↑G.length:Int) (0:Int) then (bif decide (0+I.fst.length*1≤I.fst.length) then (bif S.bU I.fst.length (lim I.fst) then some (.lst false 129 (S.len (S.num I.fst.length (lim I.fst))) (S.row (S.num I.fst.length (lim I.fst)))) else none) else none) else none) else none)):=by kernel_rfl
def AF (S:Sg) (args:List AV):Option (Bool×AV):=match args with | [.lst _ 129 m f, .val (.int .i64 k)]=>some (S.bU m f&&decide (0≤k)&&decide (k≤32),S.fX (S.num m f / 2 ^ k.toNat)) | _=>none
theorem LL:Entry Tryz.prog 158 (AF aa):=by
 refine iI (E:=IT aa uh mm) (u:=10) (d:=10) tf (SO aB.none).ok (by kernel_rfl) (fun args r h=> ?_)
 unfold AF at h
 split at h
 ·rename_i fl m f k
  simp only [Option.some.injEq,Prod.mk.injEq,Bool.and_eq_true,decide_eq_true_eq] at h
  obtain ⟨⟨⟨a1,a7⟩,bx⟩,rfl⟩:=h
  obtain ⟨O,J,U,Z⟩:=NN a1
  have M:v8 (rowOf m f) k (List.replicate (rowOf m f).length 0) (rowOf m f).length 0:= ⟨J,lv _,by simp,U,rfl,rfl,k.toNat,by omega,by omega⟩
  obtain ⟨_,ab,a6,aE⟩:=OJ _ _ _ _ _ M
  have G:=aha aa uh mm (rowOf m f) k
  simp only [kE,Nat.mul_one,Nat.zero_add,Int.toNat_natCast,List.length_replicate,eq_self,decide_true] at G
  rw [WQ _ _ _ _ _ M] at G
  generalize mm (rowOf m f) k (List.replicate (rowOf m f).length 0) (rowOf m f).length 0=q at*
  rw [jg J,dT (show ((rowOf m f).length:Int)≤((rowOf m f).length:Int) by omega),dT (show (4:Int)*((rowOf m f).length:Int)≤281474976710656 by omega),dT (show ((rowOf m f).length:Int)≤9223372036854775807 by omega),dT (show q.1.length≤q.1.length by omega),l9 ab (by omega),lZ,aE] at G
  refine ⟨_,_,G,fun B w bD I=> ?_,fun B w y I=>by rw [Z];exact I⟩
  obtain ⟨y,zs,rfl,q1,q2⟩:=I
  exact ⟨y,_,rfl,lu O q1,q2⟩
 ·cases h
end
end Go.Proofs.YtamcpiicmfielaaGreat.L
namespace Go.Proofs.YtamcpiicmfielaaGreat.L
open Go Go.V Go.RowKit Go.Proofs.YtamcpiicmfielaaGreat.Sp Go.Proofs.YtamcpiicmfielaaGreat.F Go.Proofs.YtamcpiicmfielaaGreatW.PrintWords
open Go.Proofs (Tryz.prog)
noncomputable section
def A8:Env:= ⟨aw 175 Gu aK,au,aq⟩
theorem RC:bf Tryz.prog A8.C:=(aJ _).add Xy
abbrev eB:List Bool:= [false,false,true,true,true,true]
def eO (us vs:List Int) (i k g r:Int) (qs:List Int):List AV:=ar 194 [(0, .sl false 129 0 0 us.length),(1, .lst false 129 vs.length (lim vs)),(2, .val (.int .i64 i)),(7, .val (.int .i64 k)),(9, .val (.int .u64 g)),(10, .val (.int .u64 r))]
def dX (us vs:List Int) (i k g r:Int) (qs:List Int):Hp:= [.row (.ints .u32 us) 129 .live, .row (.ints .u32 qs) 129 .live]
theorem Tt:aH Tryz.prog 172 eB=some (.loop (lb 172 eB)):=by kernel_rfl
theorem Vc:aH Tryz.prog 172 (false :: eB)=some (lb 172 eB):=by kernel_rfl
theorem ad0 (us vs:List Int) (i k g r:Int) (qs:List Int):letI G:=(IntKind.u64.wrap (r+vs.getD (k - (1:Int)).toNat (0:Int)));letI I:=(IntKind.u64.wrap (g - (1:Int)));letI J:Option (Ex×List AV×Hp):=(bif ai IntKind.i64 (k - (1:Int)) then (bif decide ((0:Int)≤k - (1:Int))&&decide (k - (1:Int) < (↑vs.length:Int)) then (bif ai IntKind.u64 (vs.getD (k - (1:Int)).toNat (0:Int)) then (bif decide ((0:Int) < G.fdiv (4294967296:Int)) then (bif decide (I.fdiv (4294967296:Int)=(0:Int)) then some ((.exit 0),ar 194 [(0,(.sl false 129 0 0 us.length)),(1,(.lst false 129 vs.length (lim vs))),(2,(.val (.int .i64 i))),(7,(.val (.int .i64 k))),(9,(.val (.int .u64 I))),(10,(.val (.int .u64 G)))], [(.row (.ints .u32 us) 129 .live),(.row (.ints .u32 qs) 129 .live)]) else some (.normal,ar 194 [(0,(.sl false 129 0 0 us.length)),(1,(.lst false 129 vs.length (lim vs))),(2,(.val (.int .i64 i))),(7,(.val (.int .i64 k))),(9,(.val (.int .u64 I))),(10,(.val (.int .u64 G)))], [(.row (.ints .u32 us) 129 .live),(.row (.ints .u32 qs) 129 .live)])) else some (.normal,ar 194 [(0,(.sl false 129 0 0 us.length)),(1,(.lst false 129 vs.length (lim vs))),(2,(.val (.int .i64 i))),(7,(.val (.int .i64 k))),(9,(.val (.int .u64 I))),(10,(.val (.int .u64 G)))], [(.row (.ints .u32 us) 129 .live),(.row (.ints .u32 qs) 129 .live)])) else none) else none) else none);
  (dN Tryz.prog br 2 172 [0,1,2,7,9,10] (lb 172 eB) (false :: eB) (eO us vs i k g r qs) (dX us vs i k g r qs)=(bif decide ((0:Int) < g.fdiv (4294967296:Int)) then J else (bif decide (r.fdiv (4294967296:Int)=(0:Int)) then (bif ai IntKind.i64 (k - (2:Int)) then (bif decide ((0:Int)≤k - (2:Int))&&decide (k - (2:Int) < (↑vs.length:Int)) then (bif ai IntKind.u64 (vs.getD (k - (2:Int)).toNat (0:Int)) then (bif ai IntKind.i64 (i+k) then (bif ai IntKind.i64 (i+k - (2:Int)) then (bif decide ((0:Int)≤i+k - (2:Int))&&decide (i+k - (2:Int) < (↑us.length:Int)) then (bif decide (0+(i+k - (2:Int)).toNat*1 < us.length) then (bif ai IntKind.u64 (us.getD (0+(i+k - (2:Int)).toNat*1) (0:Int)) then (bif decide (cm BinOp.or IntKind.u64 (IntKind.u64.wrap (r*(4294967296:Int))) (us.getD (0+(i+k - (2:Int)).toNat*1) (0:Int)) < IntKind.u64.wrap (g*vs.getD (k - (2:Int)).toNat (0:Int))) then J else some ((.exit 0),ar 194 [(0,(.sl false 129 0 0 us.length)),(1,(.lst false 129 vs.length (lim vs))),(2,(.val (.int .i64 i))),(7,(.val (.int .i64 k))),(9,(.val (.int .u64 g))),(10,(.val (.int .u64 r)))], [(.row (.ints .u32 us) 129 .live),(.row (.ints .u32 qs) 129 .live)])) else none) else none) else none) else none) else none) else none) else none) else none) else some ((.exit 0),ar 194 [(0,(.sl false 129 0 0 us.length)),(1,(.lst false 129 vs.length (lim vs))),(2,(.val (.int .i64 i))),(7,(.val (.int .i64 k))),(9,(.val (.int .u64 g))),(10,(.val (.int .u64 r)))], [(.row (.ints .u32 us) 129 .live),(.row (.ints .u32 qs) 129 .live)])))):=by kernel_rfl
theorem wz {us vs:List Int} {i k g r:Int} {qs:List Int} {e:Ex} {T:List AV} {H:Hp} (h:dN Tryz.prog br 2 172 [0,1,2,7,9,10] (lb 172 eB) (false :: eB) (eO us vs i k g r qs) (dX us vs i k g r qs)=some (e,T,H)):V.Ends Tryz.prog false 2 0 (lb 172 eB) (eO us vs i k g r qs) (dX us vs i k g r qs) e T H:=
 qp (aJ _) aN mixed Vc h
def yl (us vs:List Int) (i:Nat):Nat:=vL us / (4294967296 ^ i*vL vs)
def vc (us vs:List Int) (i k g r:Int) (qs:List Int):Prop:=∃ G J x1 I:Nat,i=G∧k=vs.length∧aI us∧aI vs∧2≤vs.length∧G+vs.length < us.length∧us.length≤17592186044416∧vs.getD (vs.length - 1) 0=I∧2147483648≤I∧
 vL us < 4294967296 ^ (G+1)*vL vs∧us.getD (G+vs.length) 0=J∧us.getD (G+vs.length - 1) 0=x1∧g=((J*4294967296+x1) / I:Nat)∧r=((J*4294967296+x1) % I:Nat)
def zw (us vs:List Int) (i k g r:Int) (qs:List Int) (ρ:Int×Int):Prop:=∃ G:Nat,ρ.1=G∧yl us vs i.toNat≤G∧G≤yl us vs i.toNat+1∧G < 4294967296
theorem Y3 (us vs qs:List Int) (i:Nat) (hb:i+vs.length < us.length) (fa:us.length≤17592186044416) (gf:2≤vs.length) (J G v2:Nat) (eg:J < 4294967296) (hd:G < 4294967296) (eh:1≤G) (hf:v2 < 4294967296)
  (et:us.getD (i+vs.length - 2) 0=(J:Int)) (eu:vs.getD (vs.length - 1) 0=(G:Int)) (ev:vs.getD (vs.length - 2) 0=(v2:Int))
  (P X Y U:Nat) (eL:X < P) (eN:Y < P) (hc:U < 18446744073709551616) (q:Nat) (gn:q < 4294967296) (e2:q*(Y+P*(G*4294967296+v2))≤X+P*(U*4294967296+J)) (e3:X+P*(U*4294967296+J) < (q+1)*(Y+P*(G*4294967296+v2))) (n:Nat):
  ∀ g r:Nat,g=n→g*G+r=U→q≤g→∃ ρ:Int×Int,bT Tryz.prog 2 (lb 172 eB) (eO us vs i vs.length g r qs) (dX us vs i vs.length g r qs) (.exit 0) (eO us vs i vs.length ρ.1 ρ.2 qs) (dX us vs i vs.length ρ.1 ρ.2 qs)∧∃ M:Nat,ρ.1=M∧q≤M∧M≤q+1∧M < 4294967296:=by
 have eR:0 < Y+P*(G*4294967296+v2):=by
  grind
 have out:∀ g r:Nat,g < 4294967296→g*G+r=U→g*v2≤r*4294967296+J→g≤q+1:=by
  intro g r Z O bD
  have a6:=YT (X:=X) eN eh Z O bD
  rcases Nat.lt_or_ge (q+1) g with b0 | b0
  ·exfalso
   have e7:=Nat.mul_le_mul_right (Y+P*(G*4294967296+v2)) b0
   grind
  ·exact b0
 have ep:∀ g r:Nat,g < 4294967296→4294967296≤r→g*v2≤r*4294967296+J:=by
  intro g r Z O
  have bD:g*v2≤4294967296*4294967296:=Nat.mul_le_mul (by omega) (by omega)
  grind
 have c7:∀ g r:Nat,g*G+r=U→(4294967296≤g∨r*4294967296+J < g*v2)→q+1≤g:=by
  intro g r Z O
  rcases O with O | O
  ·omega
  ·have bD:=YU (Y:=Y) eL Z O
   rcases Nat.lt_or_ge q g with a6 | a6
   ·exact a6
   ·exfalso
    have:=Nat.mul_le_mul_right (Y+P*(G*4294967296+v2)) a6
    omega
 clear e2 e3 eR
 have e1:(vs.length:Int) - 1=((vs.length - 1:Nat):Int):=by omega
 have dx:(vs.length:Int) - 2=((vs.length - 2:Nat):Int):=by omega
 have dy:(i:Int)+(vs.length:Int)=((i+vs.length:Nat):Int):=by omega
 have ea:((i+vs.length:Nat):Int) - 2=((i+vs.length - 2:Nat):Int):=by omega
 have l1:ai .i64 ((vs.length - 1:Nat):Int)=true:=bH _ (by omega)
 have l2:ai .i64 ((vs.length - 2:Nat):Int)=true:=bH _ (by omega)
 have en:ai .i64 ((i+vs.length:Nat):Int)=true:=bH _ (by omega)
 have eo:ai .i64 ((i+vs.length - 2:Nat):Int)=true:=bH _ (by omega)
 have b4:decide ((0:Int)≤((vs.length - 1:Nat):Int))=true:=dT (by omega)
 have b5:decide ((0:Int)≤((vs.length - 2:Nat):Int))=true:=dT (by omega)
 have b6:decide ((0:Int)≤((i+vs.length - 2:Nat):Int))=true:=dT (by omega)
 have b7:decide (((vs.length - 1:Nat):Int) < (vs.length:Int))=true:=dT (by omega)
 have ch:decide (((vs.length - 2:Nat):Int) < (vs.length:Int))=true:=dT (by omega)
 have ct:decide (((i+vs.length - 2:Nat):Int) < (us.length:Int))=true:=dT (by omega)
 have c0:decide (i+vs.length - 2 < us.length)=true:=dT (by omega)
 have c4:ai .u64 (G:Int)=true:=dj (by omega)
 have c5:ai .u64 (v2:Int)=true:=dj (by omega)
 have c6:ai .u64 (J:Int)=true:=dj (by omega)
 have b3:∀ g r:Nat,_:=fun g r=>ad0 us vs i vs.length g r qs
 simp only [e1,dx,dy,ea,Int.toNat_natCast,Nat.zero_add,Nat.mul_one,l1,l2,en,eo,b4,b5,b6,b7,ch,ct,c0,eu,ev,et,c4,c5,c6,jK] at b3
 clear e1 dx dy ea l1 l2 en eo b4 b5 b6 b7 ch ct c0 c4 c5 c6
 induction n with
 | zero=>
  intro g r b2 aE a7
  subst b2
  have I:=b3 0 r
  rw [dF (show ¬ (0:Int) < ((0 / 4294967296:Nat):Int) by omega)] at I
  refine ⟨((0:Nat),(r:Int)), .last (wz ?_) (by simp_all),0,rfl,a7,by omega,by omega⟩
  by_cases bx:((r / 4294967296:Nat):Int)=0
  ·have e5:r < 4294967296:=by omega
   rw [dT bx,yL r J e5 eg,← Int.natCast_mul,Nat.zero_mul,eU (a:=0) (by omega),dF (show ¬ ((r*4294967296+J:Nat):Int) < ((0:Nat):Int) by omega)] at I
   rw [I];rfl
  ·rw [dF bx] at I
   rw [I];rfl
 | succ n e6=>
  intro g r b2 aE a7
  have ed:n*G+(r+G)=U:=by rw [← aE,b2,Nat.succ_mul];omega
  have fs:g < 18446744073709551616:=by
   have:=Nat.le_mul_of_pos_right g eh
   omega
  have I:=b3 g r
  have w1:IntKind.u64.wrap ((g:Int) - 1)=((n:Nat):Int):=(H9 (by omega) (by omega)).trans (by omega)
  have c3:q+1≤g→
    dN Tryz.prog br 2 172 [0,1,2,7,9,10] (lb 172 eB) (false :: eB) (eO us vs i vs.length g r qs) (dX us vs i vs.length g r qs)=(bif decide ((0:Int) < (((r+G) / 4294967296:Nat):Int)) then bif decide (((n / 4294967296:Nat):Int)=0) then some (.exit 0,eO us vs i vs.length n ((r+G:Nat):Int) qs,dX us vs i vs.length n ((r+G:Nat):Int) qs) else some (.normal,eO us vs i vs.length n ((r+G:Nat):Int) qs,dX us vs i vs.length n ((r+G:Nat):Int) qs) else some (.normal,eO us vs i vs.length n ((r+G:Nat):Int) qs,dX us vs i vs.length n ((r+G:Nat):Int) qs))→
    ∃ ρ:Int×Int,bT Tryz.prog 2 (lb 172 eB) (eO us vs i vs.length g r qs) (dX us vs i vs.length g r qs) (.exit 0) (eO us vs i vs.length ρ.1 ρ.2 qs) (dX us vs i vs.length ρ.1 ρ.2 qs)∧∃ M:Nat,ρ.1=M∧q≤M∧M≤q+1∧M < 4294967296:=by
   intro a1 b1
   by_cases ab:4294967296≤r+G∧n < 4294967296
   ·rw [dT (show (0:Int) < (((r+G) / 4294967296:Nat):Int) by omega),dT (show ((n / 4294967296:Nat):Int)=0 by omega)] at b1
    exact ⟨((n:Int),((r+G:Nat):Int)), .last (wz b1) (by simp_all),n,rfl,by omega,out n (r+G) ab.2 ed (ep _ _ ab.2 ab.1),ab.2⟩
   ·obtain ⟨ρ,Z,O⟩:=e6 n (r+G) rfl ed (by omega)
    refine ⟨ρ, .more (wz ?_) Z,O⟩
    rw [b1]
    by_cases ec:(0:Int) < (((r+G) / 4294967296:Nat):Int)
    ·rw [dT ec,dF (show ¬ ((n / 4294967296:Nat):Int)=0 by omega)]
     rfl
    ·rw [dF ec]
     rfl
  have eb:q+1≤g→IntKind.u64.wrap ((r:Int)+G)=((r+G:Nat):Int):=fun h=>by
   rw [← Int.natCast_add,eU]
   omega
  by_cases ez:4294967296≤g
  ·have a1:=c7 g r aE (.inl ez)
   rw [dT (show (0:Int) < ((g / 4294967296:Nat):Int) by omega),w1,eb a1,jK,jK] at I
   exact c3 a1 I
  ·rw [dF (show ¬ (0:Int) < ((g / 4294967296:Nat):Int) by omega)] at I
   by_cases bx:4294967296≤r
   ·rw [dF (show ¬ ((r / 4294967296:Nat):Int)=0 by omega)] at I
    exact ⟨((g:Int),(r:Int)), .last (wz I) (by intro h;cases h),g,rfl,a7,out g r (by omega) aE (ep g r (by omega) bx),by omega⟩
   ·have fc:g < 4294967296:=by omega
    have e4:r < 4294967296:=by omega
    have fv:g*v2≤4294967295*4294967295:=Nat.mul_le_mul (by omega) (by omega)
    rw [dT (show ((r / 4294967296:Nat):Int)=0 by omega),yL r J e4 eg,← Int.natCast_mul g v2,eU (a:=g*v2) (by omega)] at I
    by_cases ab:r*4294967296+J < g*v2
    ·have a1:=c7 g r aE (.inr ab)
     rw [dT (show ((r*4294967296+J:Nat):Int) < ((g*v2:Nat):Int) by omega),w1,eb a1,jK,jK] at I
     exact c3 a1 I
    ·rw [dF (show ¬ ((r*4294967296+J:Nat):Int) < ((g*v2:Nat):Int) by omega)] at I
     exact ⟨((g:Int),(r:Int)), .last (wz I) (by intro h;cases h),g,rfl,a7,out g r (by omega) aE (by omega),by omega⟩
theorem aay (us vs:List Int) (i k g r:Int) (qs:List Int) (h:vc us vs i k g r qs):∃ ρ:Int×Int,bT Tryz.prog 2 (lb 172 eB) (eO us vs i k g r qs) (dX us vs i k g r qs) (.exit 0) (eO us vs i k ρ.1 ρ.2 qs) (dX us vs i k ρ.1 ρ.2 qs)∧zw us vs i k g r qs ρ:=by
 obtain ⟨i,et,x1,ep,rfl,rfl,M,O,dx,hi,hb,b2,ez,a7,eR,e3,rfl,rfl⟩:=h
 have a1:vs.length - 1 < vs.length:=by omega
 have a6:vs.length - 2 < vs.length:=by omega
 have bx:i+vs.length < us.length:=hi
 have bD:i+vs.length - 1 < us.length:=by omega
 have b0:i+vs.length - 2 < us.length:=by omega
 have c7:i+vs.length+1≤us.length:=by omega
 obtain ⟨I,eL,b6,e2⟩:=cH M _ bx
 obtain ⟨J,eN,b7,e4⟩:=cH M _ bD
 obtain ⟨x2,b1,ch,eo⟩:=cH M _ b0
 obtain ⟨v2,eg,b5,b4⟩:=cH O _ a6
 obtain ⟨G,ed,b3,eu⟩:=cH O _ a1
 obtain rfl:I=et:=by grind
 obtain rfl:J=x1:=by grind
 obtain rfl:G=ep:=by grind
 have c4:=dP O
 have en:vL (us.drop (i+vs.length+1))=0:=by
  refine Q4 _ c7 (Nat.lt_of_lt_of_le a7 ?_)
  rw [show i+vs.length+1=(i+1)+vs.length by omega,Nat.pow_add 4294967296 (i+1) vs.length]
  exact Nat.mul_le_mul_left _ (Nat.le_of_lt c4)
 have ec:vL (us.drop (i+vs.length - 2))=(I*4294967296+J)*4294967296+x2:=by
  rw [List.drop_eq_getElem_cons b0,ch,cj,show i+vs.length - 2+1=i+vs.length - 1 by omega,List.drop_eq_getElem_cons bD,b7,cj,show i+vs.length - 1+1=i+vs.length by omega,List.drop_eq_getElem_cons bx,b6,cj,en]
  grind
 have eh:vL (vs.drop (vs.length - 2))=G*4294967296+v2:=by
  rw [List.drop_eq_getElem_cons a6,b5,cj,show vs.length - 2+1=vs.length - 1 by omega,List.drop_eq_getElem_cons a1,b3,cj,List.drop_of_length_le (by omega),cF]
  grind
 have Z:=nN us (i+vs.length - 2) (by omega)
 rw [ec] at Z
 have U:=dP (oE M (i+vs.length - 2))
 rw [List.length_take,Nat.min_eq_left (by omega)] at U
 have c0:=nN vs (vs.length - 2) (by omega)
 rw [eh] at c0
 have aE:=dP (oE O (vs.length - 2))
 rw [List.length_take,Nat.min_eq_left (by omega)] at aE
 have ct:4294967296 ^ (i+vs.length - 2)=4294967296 ^ i*4294967296 ^ (vs.length - 2):=by rw [← Nat.pow_add];grind
 have c5:4294967296 ^ i*vL (vs.take (vs.length - 2)) < 4294967296 ^ (i+vs.length - 2):=by
  rw [ct];exact Nat.mul_lt_mul_of_pos_left aE (Nat.pow_pos (by decide))
 have c3:4294967296 ^ i*vL vs=4294967296 ^ i*vL (vs.take (vs.length - 2))+4294967296 ^ (i+vs.length - 2)*(G*4294967296+v2):=by
  grind
 have ab:0 < 4294967296 ^ i*vL vs:=by
  rcases Nat.eq_zero_or_pos (vL vs) with h | h
  ·grind
  ·exact Nat.mul_pos (Nat.pow_pos (by decide)) h
 have eb:I*4294967296+J < 18446744073709551616:=by omega
 have dy:vL us / (4294967296 ^ i*vL vs)*(4294967296 ^ i*vL vs)≤vL us:=Nat.div_mul_le_self _ _
 have ev:vL us < (vL us / (4294967296 ^ i*vL vs)+1)*(4294967296 ^ i*vL vs):=by
  rw [Nat.add_mul,Nat.one_mul]
  exact Nat.lt_div_mul_add ab
 have ea:vL us / (4294967296 ^ i*vL vs) < 4294967296:=by
  rw [Nat.div_lt_iff_lt_mul ab,← Nat.mul_assoc,Nat.mul_comm 4294967296,← Nat.pow_succ]
  exact a7
 unfold zw yl
 rw [Int.toNat_natCast]
 have c6:=YV (P:=4294967296 ^ (i+vs.length - 2)) (X:=vL (us.take (i+vs.length - 2))) (Y:=4294967296 ^ i*vL (vs.take (vs.length - 2))) (v2:=v2) U b1 (show 1≤G by omega) (by rw [← Z,← c3];exact dy)
 exact Y3 us vs qs i hi hb dx x2 G v2 b1 ed (by omega) eg eo b2 b4 (4294967296 ^ (i+vs.length - 2)) (vL (us.take (i+vs.length - 2))) (4294967296 ^ i*vL (vs.take (vs.length - 2))) (I*4294967296+J) U c5 eb _ ea (by simp_all) (by simp_all) _ _ ((I*4294967296+J) % G) rfl (by rw [Nat.mul_comm];exact Nat.div_add_mod _ _) c6
def Ha (O:List Int→List Int→Int→Int→Int→Int→List Int→Bool) (J:List Int→List Int→Int→Int→Int→Int→List Int→Int×Int) (T:List AV) (H:Hp):Option (Bool×Ex×List AV×Hp):=
 match al T 0,al T 1,al T 2,al T 7,al T 9,al T 10,H with
 | .sl false 129 0 0 M, .lst false 129 I G, .val (.int .i64 i), .val (.int .i64 k), .val (.int .u64 g), .val (.int .u64 r), [.row (.ints .u32 us) 129 .live, .row (.ints .u32 qs) 129 .live]=>bif T.length==194 then some (okB I G&&decide (M=us.length)&&O us (rowOf I G) i k g r qs, .exit 0,eO us (rowOf I G) i k ((J us (rowOf I G) i k g r qs).1) ((J us (rowOf I G) i k g r qs).2) qs,dX us (rowOf I G) i k ((J us (rowOf I G) i k g r qs).1) ((J us (rowOf I G) i k g r qs).2) qs) else none
 | _,_,_,_,_,_,_=>none
abbrev BG:Type:=List Int→List Int→Int→Int→Int→Int→List Int→Bool
abbrev Bk:Type:=List Int→List Int→Int→Int→Int→Int→List Int→Int×Int
def J2 (G:BG) (I:Bk) (L:aC):aC:=bp 2 172 eB [0,1,2,7,9,10] (Ha G I) L
def me (us vs:List Int) (i k g r:Int) (qs:List Int):Int×Int:=Classical.epsilon fun ρ=>bT Tryz.prog 2 (lb 172 eB) (eO us vs i k g r qs) (dX us vs i k g r qs) (.exit 0) (eO us vs i k (ρ.1) (ρ.2) qs) (dX us vs i k (ρ.1) (ρ.2) qs)∧zw us vs i k g r qs ρ
theorem N8 (us vs:List Int) (i k g r:Int) (qs:List Int) (h:vc us vs i k g r qs):bT Tryz.prog 2 (lb 172 eB) (eO us vs i k g r qs) (dX us vs i k g r qs) (.exit 0) (eO us vs i k ((me us vs i k g r qs).1) ((me us vs i k g r qs).2) qs) (dX us vs i k ((me us vs i k g r qs).1) ((me us vs i k g r qs).2) qs)∧zw us vs i k g r qs (me us vs i k g r qs):=Classical.epsilon_spec (aay us vs i k g r qs h)
def rl (us vs:List Int) (i k g r:Int) (qs:List Int):Bool:= @decide (vc us vs i k g r qs) (Classical.propDecidable _)
theorem V7 (us vs:List Int) (i k g r:Int) (qs:List Int) (h:vc us vs i k g r qs):rl us vs i k g r qs=true:= @decide_eq_true _ (Classical.propDecidable _) h
theorem af9 (T:List AV) (H:Hp) (e:Ex) (J:List AV) (I:Hp) (h:Ha rl me T H=some (true,e,J,I)):V.Ends Tryz.prog false 2 0 (.loop (lb 172 eB)) T H e J I:=by
 unfold Ha at h
 split at h
 ·rename_i b3 b2 U i k g r us qs Z ab a1 a6 a7 aE
  rw [Bool.cond_eq_ite] at h
  split at h
  ·rename_i M
   rw [beq_iff_eq] at M
   simp only [Option.some.injEq,Prod.mk.injEq,Bool.and_eq_true,decide_eq_true_eq] at h
   obtain ⟨⟨⟨k1,bD⟩,b0⟩,rfl,rfl,rfl⟩:=h
   have b1:= @of_decide_eq_true _ (Classical.propDecidable _) b0
   refine Ends.pre (N8 us (rowOf b2 U) i k g r qs b1).1.ends (fun α B w D b4 bx=>bq M (fun p O y G=> ?_) bx)
   simp only [List.mem_cons,List.not_mem_nil,or_false] at O
   rcases O with rfl | rfl | rfl | rfl | rfl | rfl
   ·rw [Z] at G;rw [← bD];exact G
   ·rw [ab] at G;rw [cA];exact cE cy k1 G
   ·rw [a1] at G;exact G
   ·rw [a6] at G;exact G
   ·rw [a7] at G;exact G
   ·rw [aE] at G;exact G
  ·cases h
 ·cases h
theorem RX {L:aC} (h:aB Tryz.prog L):aB Tryz.prog (J2 rl me L):=h.bz Tt af9
end
end Go.Proofs.YtamcpiicmfielaaGreat.L
namespace Go.Proofs.YtamcpiicmfielaaGreat.L
open Go Go.V Go.RowKit Go.Proofs.YtamcpiicmfielaaGreat.Sp Go.Proofs.YtamcpiicmfielaaGreat.F Go.Proofs.YtamcpiicmfielaaGreatW.PrintWords
open Go.Proofs (Tryz.prog)
noncomputable section
abbrev gg:List Bool:= [false,true,false,true,true,true,true,true,true]
def jq (us vs:List Int) (i k g c b:Int) (G:List Int) (n j:Int) (qs:List Int):List AV:=ar 194 [(0, .sl false 129 0 0 us.length),(1, .lst false 129 vs.length (lim vs)),(2, .val (.int .i64 i)),(7, .val (.int .i64 k)),(9, .val (.int .u64 g)),(11, .val (.int .u64 c)),(12, .val (.int .u32 b)),(101, .lst false 129 G.length (lim G)),(102, .val (.int .i64 n)),(103, .val (.int .i64 j))]
def iP (us vs:List Int) (i k g c b:Int) (G:List Int) (n j:Int) (qs:List Int):Hp:= [.row (.ints .u32 us) 129 .live, .row (.ints .u32 qs) 129 .live]
theorem TH:aH Tryz.prog 172 gg=some (.loop (lb 172 gg)):=by kernel_rfl
theorem Vn:aH Tryz.prog 172 (false :: gg)=some (lb 172 gg):=by kernel_rfl
theorem O8 (us vs:List Int) (i k g c b:Int) (G:List Int) (n j:Int) (qs:List Int):letI I:=(IntKind.u64.wrap (c+IntKind.u64.wrap (g*G.getD j.toNat (0:Int))));letI J:=(0+(i+j).toNat*1);
  (dN Tryz.prog q7 2 172 [0,1,2,7,9,11,12,101,102,103] (lb 172 gg) (false :: gg) (jq us vs i k g c b G n j qs) (iP us vs i k g c b G n j qs)=(bif decide (j < n) then (bif decide ((0:Int)≤j)&&decide (j < (↑G.length:Int)) then (bif ai IntKind.u64 (G.getD j.toNat (0:Int)) then (bif ai IntKind.i64 (i+j) then (bif ai IntKind.i64 (i+j) then (bif decide ((0:Int)≤i+j)&&decide (i+j < (↑us.length:Int)) then (bif decide (0+(i+j).toNat*1 < us.length) then (bif bZ (us.getD J (0:Int))&&bZ (IntKind.u32.wrap I)&&decide ((0:Int)≤b)&&decide (b≤(1:Int)) then (bif decide ((0:Int)≤i+j)&&decide (i+j < (↑us.length:Int)) then (bif decide (0+(i+j).toNat*1 < us.length) then (bif ai IntKind.i64 (j+(1:Int)) then some (.normal,ar 194 [(0,(.sl false 129 0 0 us.length)),(1,(.lst false 129 vs.length (lim vs))),(2,(.val (.int .i64 i))),(7,(.val (.int .i64 k))),(9,(.val (.int .u64 g))),(11,(.val (.int .u64 (I.fdiv (4294967296:Int))))),(12,(.val (.int .u32 (if us.getD J (0:Int) < IntKind.u32.wrap I+b then (1:Int) else (0:Int))))),(101,(.lst false 129 G.length (lim G))),(102,(.val (.int .i64 n))),(103,(.val (.int .i64 (j+(1:Int)))))], [(.row (.ints .u32 (us.set J ((us.getD J (0:Int)+(8589934592:Int) - IntKind.u32.wrap I - b) % (4294967296:Int)))) 129 .live),(.row (.ints .u32 qs) 129 .live)]) else none) else none) else none) else none) else none) else none) else none) else none) else none) else none) else some ((.exit 2),ar 194 [(0,(.sl false 129 0 0 us.length)),(1,(.lst false 129 vs.length (lim vs))),(2,(.val (.int .i64 i))),(7,(.val (.int .i64 k))),(9,(.val (.int .u64 g))),(11,(.val (.int .u64 c))),(12,(.val (.int .u32 b))),(101,(.lst false 129 G.length (lim G))),(102,(.val (.int .i64 n))),(103,(.val (.int .i64 j)))], [(.row (.ints .u32 us) 129 .live),(.row (.ints .u32 qs) 129 .live)]))):=by kernel_rfl
theorem P7 {us vs:List Int} {i k g c b:Int} {G:List Int} {n j:Int} {qs:List Int} {e:Ex} {T:List AV} {H:Hp} (h:dN Tryz.prog q7 2 172 [0,1,2,7,9,11,12,101,102,103] (lb 172 gg) (false :: gg) (jq us vs i k g c b G n j qs) (iP us vs i k g c b G n j qs)=some (e,T,H)):V.Ends Tryz.prog false 2 0 (lb 172 gg) (jq us vs i k g c b G n j qs) (iP us vs i k g c b G n j qs) e T H:=
 qp Iz aN mixed Vn h
def vv (us vs:List Int) (i k g c b:Int) (G:List Int) (n j:Int) (qs:List Int):Prop:=∃ J I:Nat,i=J∧g=I∧I < 4294967296∧aI us∧aI G∧us.length≤17592186044416∧J+G.length < us.length∧c=0∧b=0∧n=G.length∧j=0
def zA (us vs:List Int) (i k g c b:Int) (G:List Int) (n j:Int) (qs:List Int) (r:List Int×Int×Int×Int):Prop:=∃ c' I:Nat,r.2.1=c'∧r.2.2.1=I∧c' < 4294967296∧I≤1∧aI r.1∧r.1.length=us.length∧r.1.drop (i.toNat+G.length)=us.drop (i.toNat+G.length)∧vL r.1+4294967296 ^ i.toNat*(g.toNat*vL G)=vL us+4294967296 ^ (i.toNat+G.length)*(c'+I)
theorem abv (vs G qs:List Int) (k:Int) (eh:aI G) (i g:Nat) (ez:g < 4294967296) (d:Nat):∀ (j c b T:Nat) (us:List Int),j+d=G.length→aI us→us.length≤17592186044416→i+G.length < us.length→c < 4294967296→b≤1→
  dQ (vL us+4294967296 ^ i*(g*vL (G.take j))=T+4294967296 ^ (i+j)*(c+b))→
  ∃ r:List Int×Int×Int×Int,bT Tryz.prog 2 (lb 172 gg) (jq us vs i k g c b G G.length j qs) (iP us vs i k g c b G G.length j qs) (.exit 2) (jq r.1 vs i k g r.2.1 r.2.2.1 G G.length r.2.2.2 qs) (iP r.1 vs i k g r.2.1 r.2.2.1 G G.length r.2.2.2 qs)∧
   ∃ c' I:Nat,r.2.1=c'∧r.2.2.1=I∧c' < 4294967296∧I≤1∧aI r.1∧r.1.length=us.length∧r.1.drop (i+G.length)=us.drop (i+G.length)∧vL r.1+4294967296 ^ i*(g*vL G)=T+4294967296 ^ (i+G.length)*(c'+I):=by
 induction d with
 | zero=>
  intro j c b T us ea J c5 dy bx hb a7
  have eb:j=G.length:=by omega
  subst eb
  refine ⟨(us,(c:Int),(b:Int),(G.length:Int)), .last (P7 ?_) (by grind),c,b,rfl,rfl,bx,hb,J,rfl,rfl, ?_⟩
  ·rw [O8,dF (show ¬ ((G.length:Int) < G.length) by omega)]
   rfl
  ·have:=a7.out
   grind
 | succ d b1=>
  intro j c b T us ea J c5 dy bx hb Z
  have bD:j < G.length:=by omega
  have U:i+j < us.length:=by omega
  obtain ⟨y,eN,dx,eg⟩:=cH eh j bD
  obtain ⟨x,en,c7,ed⟩:=cH J (i+j) U
  have M:=dQ.mk (la G j bD)
  rw [dx,Int.toNat_natCast] at M
  have eL:g*y≤4294967295*4294967295:=Nat.mul_le_mul (by omega) (by omega)
  have c6:(c+g*y) / 4294967296 < 4294967296:=by omega
  have ec:(c+g*y) % 4294967296 < 4294967296:=Nat.mod_lt _ (by decide)
  have et:(x+8589934592 - (c+g*y) % 4294967296 - b) % 4294967296+(c+g*y) % 4294967296+b=x+4294967296*(if x < (c+g*y) % 4294967296+b then 1 else 0):=by
   grind
  have ab:(if (x:Int) < (((c+g*y) % 4294967296:Nat):Int)+(b:Int) then (1:Int) else 0)=((if x < (c+g*y) % 4294967296+b then 1 else 0:Nat):Int):=by
   grind
  have aE:((x:Int)+8589934592 - (((c+g*y) % 4294967296:Nat):Int) - (b:Int)) % 4294967296=(((x+8589934592 - (c+g*y) % 4294967296 - b) % 4294967296:Nat):Int):=by
   grind
  have c4:(if x < (c+g*y) % 4294967296+b then 1 else 0:Nat)≤1:=by grind
  have c0:(x+8589934592 - (c+g*y) % 4294967296 - b) % 4294967296 < 4294967296:=Nat.mod_lt _ (by decide)
  have b0:=O8 us vs i k g c b G G.length j qs
  have e1:(i:Int)+(j:Int)=((i+j:Nat):Int):=by omega
  rw [e1,Int.toNat_natCast,Int.toNat_natCast,Nat.zero_add,Nat.mul_one,eg,ed,dj (show 0≤(y:Int)∧(y:Int)≤18446744073709551615 by omega),bH (i+j) (by omega),aM (show -9223372036854775808≤(j:Int)+1∧(j:Int)+1≤9223372036854775807 by omega),dT (show (j:Int) < G.length by omega),dT (show (0:Int)≤(j:Int) by omega),dT (show (0:Int)≤((i+j:Nat):Int) by omega),dT (show ((i+j:Nat):Int) < (us.length:Int) by omega),dT U,
   ← Int.natCast_mul g y,eU (a:=g*y) (by omega),← Int.natCast_add c (g*y),eU (a:=c+g*y) (by omega),dH,fz en,fz ec,dT (show (0:Int)≤(b:Int) by omega),dT (show (b:Int)≤1 by omega),jK,ab,aE] at b0
  clear ab aE
  generalize ev:(if x < (c+g*y) % 4294967296+b then 1 else 0:Nat)=I at*
  generalize (x+8589934592 - (c+g*y) % 4294967296 - b) % 4294967296=D at*
  have O:=dQ.mk (oX us (i+j) U (D:Int))
  rw [c7,Int.toNat_natCast,Int.toNat_natCast] at O
  obtain ⟨r,a6,b3,b2,b4,b5,b6,b7,ch,ep,ct,a1⟩:=b1 (j+1) ((c+g*y) / 4294967296) I T (us.set (i+j) (D:Int)) (by omega) (fC J _ _ (Int.natCast_nonneg _) (Int.ofNat_lt.2 c0)) (by grind) (by grind) c6 c4 (by
   have a7:=Z.out
   have c3:=M.out
   have eu:=O.out
   constructor
   rw [c3,show i+(j+1)=(i+j)+1 from rfl,Nat.pow_succ]
   have e1:4294967296 ^ i*(g*(vL (G.take j)+4294967296 ^ j*y))=4294967296 ^ i*(g*vL (G.take j))+4294967296 ^ (i+j)*(g*y):=by grind
   have eo:4294967296 ^ (i+j)*((c+g*y) % 4294967296)+4294967296 ^ (i+j)*4294967296*((c+g*y) / 4294967296)=4294967296 ^ (i+j)*(c+g*y):=by
    rw [Nat.mul_assoc,← Nat.mul_add,Nat.mod_add_div]
   grind)
  refine ⟨r, .more (P7 ?_) a6,b3,b2,b4,b5,b6,b7,ch,by grind,by rw [ct,List.drop_set_of_lt (by omega)],a1⟩
  clear a6 a1 b1 Z M O
  rw [b0]
  unfold jq iP
  grind
theorem aaL (us vs:List Int) (i k g c b:Int) (G:List Int) (n j:Int) (qs:List Int) (h:vv us vs i k g c b G n j qs):∃ r:List Int×Int×Int×Int,bT Tryz.prog 2 (lb 172 gg) (jq us vs i k g c b G n j qs) (iP us vs i k g c b G n j qs) (.exit 2) (jq r.1 vs i k g r.2.1 r.2.2.1 G n r.2.2.2 qs) (iP r.1 vs i k g r.2.1 r.2.2.1 G n r.2.2.2 qs)∧zA us vs i k g c b G n j qs r:=by
 obtain ⟨i,g,rfl,rfl,I,J,M,hb,hi,rfl,rfl,rfl,rfl⟩:=h
 unfold zA
 rw [Int.toNat_natCast,Int.toNat_natCast]
 exact abv vs G qs k M i g I G.length 0 0 0 (vL us) us (by omega) J hb hi (by omega) (by omega) ⟨by rw [List.take_zero,cF];simp⟩
def Hq (Z:List Int→List Int→Int→Int→Int→Int→Int→List Int→Int→Int→List Int→Bool) (O:List Int→List Int→Int→Int→Int→Int→Int→List Int→Int→Int→List Int→List Int×Int×Int×Int) (T:List AV) (H:Hp):Option (Bool×Ex×List AV×Hp):=
 match al T 0,al T 1,al T 2,al T 7,al T 9,al T 11,al T 12,al T 101,al T 102,al T 103,H with
 | .sl false 129 0 0 U, .lst false 129 J G, .val (.int .i64 i), .val (.int .i64 k), .val (.int .u64 g), .val (.int .u64 c), .val (.int .u32 b), .lst false 129 M I, .val (.int .i64 n), .val (.int .i64 j), [.row (.ints .u32 us) 129 .live, .row (.ints .u32 qs) 129 .live]=>bif T.length==194 then some (okB J G&&okB M I&&decide (U=us.length)&&Z us (rowOf J G) i k g c b (rowOf M I) n j qs, .exit 2,jq ((O us (rowOf J G) i k g c b (rowOf M I) n j qs).1) (rowOf J G) i k g ((O us (rowOf J G) i k g c b (rowOf M I) n j qs).2.1) ((O us (rowOf J G) i k g c b (rowOf M I) n j qs).2.2.1) (rowOf M I) n ((O us (rowOf J G) i k g c b (rowOf M I) n j qs).2.2.2) qs,iP ((O us (rowOf J G) i k g c b (rowOf M I) n j qs).1) (rowOf J G) i k g ((O us (rowOf J G) i k g c b (rowOf M I) n j qs).2.1) ((O us (rowOf J G) i k g c b (rowOf M I) n j qs).2.2.1) (rowOf M I) n ((O us (rowOf J G) i k g c b (rowOf M I) n j qs).2.2.2) qs) else none
 | _,_,_,_,_,_,_,_,_,_,_=>none
abbrev BI:Type:=List Int→List Int→Int→Int→Int→Int→Int→List Int→Int→Int→List Int→Bool
abbrev Bm:Type:=List Int→List Int→Int→Int→Int→Int→Int→List Int→Int→Int→List Int→List Int×Int×Int×Int
def J5 (G:BI) (I:Bm) (L:aC):aC:=bp 2 172 gg [0,1,2,7,9,11,12,101,102,103] (Hq G I) L
def gH (us vs:List Int) (i k g c b:Int) (G:List Int) (n j:Int) (qs:List Int):List Int×Int×Int×Int:=Classical.epsilon fun ρ=>bT Tryz.prog 2 (lb 172 gg) (jq us vs i k g c b G n j qs) (iP us vs i k g c b G n j qs) (.exit 2) (jq (ρ.1) vs i k g (ρ.2.1) (ρ.2.2.1) G n (ρ.2.2.2) qs) (iP (ρ.1) vs i k g (ρ.2.1) (ρ.2.2.1) G n (ρ.2.2.2) qs)∧zA us vs i k g c b G n j qs ρ
theorem Oh (us vs:List Int) (i k g c b:Int) (G:List Int) (n j:Int) (qs:List Int) (h:vv us vs i k g c b G n j qs):bT Tryz.prog 2 (lb 172 gg) (jq us vs i k g c b G n j qs) (iP us vs i k g c b G n j qs) (.exit 2) (jq ((gH us vs i k g c b G n j qs).1) vs i k g ((gH us vs i k g c b G n j qs).2.1) ((gH us vs i k g c b G n j qs).2.2.1) G n ((gH us vs i k g c b G n j qs).2.2.2) qs) (iP ((gH us vs i k g c b G n j qs).1) vs i k g ((gH us vs i k g c b G n j qs).2.1) ((gH us vs i k g c b G n j qs).2.2.1) G n ((gH us vs i k g c b G n j qs).2.2.2) qs)∧zA us vs i k g c b G n j qs (gH us vs i k g c b G n j qs):=Classical.epsilon_spec (aaL us vs i k g c b G n j qs h)
def rm (us vs:List Int) (i k g c b:Int) (G:List Int) (n j:Int) (qs:List Int):Bool:= @decide (vv us vs i k g c b G n j qs) (Classical.propDecidable _)
theorem Wj (us vs:List Int) (i k g c b:Int) (G:List Int) (n j:Int) (qs:List Int) (h:vv us vs i k g c b G n j qs):rm us vs i k g c b G n j qs=true:= @decide_eq_true _ (Classical.propDecidable _) h
theorem agn (T:List AV) (H:Hp) (e:Ex) (J:List AV) (I:Hp) (h:Hq rm gH T H=some (true,e,J,I)):V.Ends Tryz.prog false 2 0 (.loop (lb 172 gg)) T H e J I:=by
 unfold Hq at h
 split at h
 ·rename_i c0 ch U i k g c b ct Z n j us qs ab aE b0 b1 b2 bx bD a1 a6 a7
  rw [Bool.cond_eq_ite] at h
  split at h
  ·rename_i M
   rw [beq_iff_eq] at M
   simp only [Option.some.injEq,Prod.mk.injEq,Bool.and_eq_true,decide_eq_true_eq] at h
   obtain ⟨⟨⟨⟨k1,b4⟩,b5⟩,b6⟩,rfl,rfl,rfl⟩:=h
   have b7:= @of_decide_eq_true _ (Classical.propDecidable _) b6
   refine Ends.pre (Oh us (rowOf ch U) i k g c b (rowOf ct Z) n j qs b7).1.ends (fun α B w D c3 b3=>bq M (fun p O y G=> ?_) b3)
   simp only [List.mem_cons,List.not_mem_nil,or_false] at O
   rcases O with rfl | rfl | rfl | rfl | rfl | rfl | rfl | rfl | rfl | rfl
   ·rw [ab] at G;rw [← b5];exact G
   ·rw [aE] at G;rw [cA];exact cE cy k1 G
   ·rw [b0] at G;exact G
   ·rw [b1] at G;exact G
   ·rw [b2] at G;exact G
   ·rw [bx] at G;exact G
   ·rw [bD] at G;exact G
   ·rw [a1] at G;rw [cA];exact cE cy b4 G
   ·rw [a6] at G;exact G
   ·rw [a7] at G;exact G
  ·cases h
 ·cases h
theorem Sh {L:aC} (h:aB Tryz.prog L):aB Tryz.prog (J5 rm gH L):=h.bz TH agn
abbrev fY:List Bool:= [false,true,false,true,true,true,true,true,true,true,true,true,true]
def jj (us vs:List Int) (i k g s:Int) (G:List Int) (n j:Int) (qs:List Int):List AV:=ar 194 [(0, .sl false 129 0 0 us.length),(1, .lst false 129 vs.length (lim vs)),(2, .val (.int .i64 i)),(7, .val (.int .i64 k)),(9, .val (.int .u64 g)),(15, .val (.int .u32 s)),(157, .lst false 129 G.length (lim G)),(158, .val (.int .i64 n)),(159, .val (.int .i64 j))]
def iL (us vs:List Int) (i k g s:Int) (G:List Int) (n j:Int) (qs:List Int):Hp:= [.row (.ints .u32 us) 129 .live, .row (.ints .u32 qs) 129 .live]
theorem Tf:aH Tryz.prog 172 fY=some (.loop (lb 172 fY)):=by kernel_rfl
theorem U3:aH Tryz.prog 172 (false :: fY)=some (lb 172 fY):=by kernel_rfl
theorem OX (us vs:List Int) (i k g s:Int) (G:List Int) (n j:Int) (qs:List Int):letI I:=(0+(i+j).toNat*1);
  (dN Tryz.prog A8 2 172 [0,1,2,7,9,15,157,158,159] (lb 172 fY) (false :: fY) (jj us vs i k g s G n j qs) (iL us vs i k g s G n j qs)=(bif decide (j < n) then (bif decide ((0:Int)≤j)&&decide (j < (↑G.length:Int)) then (bif ai IntKind.i64 (i+j) then (bif ai IntKind.i64 (i+j) then (bif decide ((0:Int)≤i+j)&&decide (i+j < (↑us.length:Int)) then (bif decide (0+(i+j).toNat*1 < us.length) then (bif bZ (us.getD I (0:Int))&&bZ (G.getD j.toNat (0:Int))&&bZ s&&decide (s≤(1:Int)) then (bif decide ((0:Int)≤i+j)&&decide (i+j < (↑us.length:Int)) then (bif decide (0+(i+j).toNat*1 < us.length) then (bif ai IntKind.i64 (j+(1:Int)) then some (.normal,ar 194 [(0,(.sl false 129 0 0 us.length)),(1,(.lst false 129 vs.length (lim vs))),(2,(.val (.int .i64 i))),(7,(.val (.int .i64 k))),(9,(.val (.int .u64 g))),(15,(.val (.int .u32 ((us.getD I (0:Int)+G.getD j.toNat (0:Int)+s) / (4294967296:Int))))),(157,(.lst false 129 G.length (lim G))),(158,(.val (.int .i64 n))),(159,(.val (.int .i64 (j+(1:Int)))))], [(.row (.ints .u32 (us.set I ((us.getD I (0:Int)+G.getD j.toNat (0:Int)+s) % (4294967296:Int)))) 129 .live),(.row (.ints .u32 qs) 129 .live)]) else none) else none) else none) else none) else none) else none) else none) else none) else none) else some ((.exit 4),ar 194 [(0,(.sl false 129 0 0 us.length)),(1,(.lst false 129 vs.length (lim vs))),(2,(.val (.int .i64 i))),(7,(.val (.int .i64 k))),(9,(.val (.int .u64 g))),(15,(.val (.int .u32 s))),(157,(.lst false 129 G.length (lim G))),(158,(.val (.int .i64 n))),(159,(.val (.int .i64 j)))], [(.row (.ints .u32 us) 129 .live),(.row (.ints .u32 qs) 129 .live)]))):=by kernel_rfl
theorem P0 {us vs:List Int} {i k g s:Int} {G:List Int} {n j:Int} {qs:List Int} {e:Ex} {T:List AV} {H:Hp} (h:dN Tryz.prog A8 2 172 [0,1,2,7,9,15,157,158,159] (lb 172 fY) (false :: fY) (jj us vs i k g s G n j qs) (iL us vs i k g s G n j qs)=some (e,T,H)):V.Ends Tryz.prog false 2 0 (lb 172 fY) (jj us vs i k g s G n j qs) (iL us vs i k g s G n j qs) e T H:=
 qp RC aN mixed U3 h
def uY (us vs:List Int) (i k g s:Int) (G:List Int) (n j:Int) (qs:List Int):Prop:=∃ I:Nat,i=I∧aI us∧aI G∧us.length≤17592186044416∧I+G.length < us.length∧s=0∧n=G.length∧j=0
def zp (us vs:List Int) (i k g s:Int) (G:List Int) (n j:Int) (qs:List Int) (r:List Int×Int×Int):Prop:=∃ I:Nat,r.2.1=I∧I≤1∧aI r.1∧r.1.length=us.length∧r.1.drop (i.toNat+G.length)=us.drop (i.toNat+G.length)∧vL r.1+4294967296 ^ (i.toNat+G.length)*I=vL us+4294967296 ^ i.toNat*vL G
theorem SU (vs G qs:List Int) (k g:Int) (c7:aI G) (i d:Nat):∀ (j s T:Nat) (us:List Int),j+d=G.length→aI us→us.length≤17592186044416→i+G.length < us.length→s≤1→
  dQ (vL us+4294967296 ^ (i+j)*s=T+4294967296 ^ i*vL (G.take j))→
  ∃ r:List Int×Int×Int,bT Tryz.prog 2 (lb 172 fY) (jj us vs i k g s G G.length j qs) (iL us vs i k g s G G.length j qs) (.exit 4) (jj r.1 vs i k g r.2.1 G G.length r.2.2 qs) (iL r.1 vs i k g r.2.1 G G.length r.2.2 qs)∧
   ∃ U:Nat,r.2.1=U∧U≤1∧aI r.1∧r.1.length=us.length∧r.1.drop (i+G.length)=us.drop (i+G.length)∧vL r.1+4294967296 ^ (i+G.length)*U=T+4294967296 ^ i*vL G:=by
 induction d with
 | zero=>
  intro j s T us ct I b5 ch bx a1
  have c0:j=G.length:=by omega
  subst c0
  refine ⟨(us,(s:Int),(G.length:Int)), .last (P0 ?_) (by grind),s,rfl,bx,I,rfl,rfl, ?_⟩
  ·rw [OX,dF (show ¬ ((G.length:Int) < G.length) by omega)]
   rfl
  ·have:=a1.out
   grind
 | succ d bD=>
  intro j s T us ct I b5 ch bx Z
  have a6:j < G.length:=by omega
  have O:i+j < us.length:=by omega
  obtain ⟨y,dy,b7,c5⟩:=cH c7 j a6
  obtain ⟨x,dx,b6,c4⟩:=cH I (i+j) O
  have J:=dQ.mk (la G j a6)
  rw [b7,Int.toNat_natCast] at J
  have c3:(x+y+s) % 4294967296 < 4294967296:=Nat.mod_lt _ (by decide)
  have c6:(x+y+s) / 4294967296≤1:=by omega
  have M:=dQ.mk (oX us (i+j) O (((x+y+s) % 4294967296:Nat):Int))
  rw [b6,Int.toNat_natCast,Int.toNat_natCast] at M
  obtain ⟨r,aE,ea,b0,b1,b2,ec,b3,ab⟩:=bD (j+1) ((x+y+s) / 4294967296) T (us.set (i+j) (((x+y+s) % 4294967296:Nat):Int)) (by omega) (fC I _ _ (Int.natCast_nonneg _) (Int.ofNat_lt.2 c3)) (by grind) (by grind) c6 (by
   have a1:=Z.out
   have b4:=J.out
   have ed:=M.out
   constructor
   rw [b4,show i+(j+1)=(i+j)+1 from rfl,Nat.pow_succ]
   have e1:4294967296 ^ i*(vL (G.take j)+4294967296 ^ j*y)=4294967296 ^ i*vL (G.take j)+4294967296 ^ (i+j)*y:=by grind
   have eb:4294967296 ^ (i+j)*((x+y+s) % 4294967296)+4294967296 ^ (i+j)*4294967296*((x+y+s) / 4294967296)=4294967296 ^ (i+j)*(x+y+s):=by
    rw [Nat.mul_assoc,← Nat.mul_add,Nat.mod_add_div]
   grind)
  refine ⟨r, .more (P0 ?_) aE,ea,b0,b1,b2,by grind,by rw [b3,List.drop_set_of_lt (by omega)],ab⟩
  clear aE ab bD Z J M
  have a7:=OX us vs i k g s G G.length j qs
  have e1:(i:Int)+(j:Int)=((i+j:Nat):Int):=by omega
  rw [e1,Int.toNat_natCast,Int.toNat_natCast,Nat.zero_add,Nat.mul_one,c5,c4,bH (i+j) (by omega),aM (show -9223372036854775808≤(j:Int)+1∧(j:Int)+1≤9223372036854775807 by omega),dT (show (j:Int) < G.length by omega),dT (show (0:Int)≤(j:Int) by omega),dT (show (0:Int)≤((i+j:Nat):Int) by omega),dT (show ((i+j:Nat):Int) < (us.length:Int) by omega),dT O,fz dx,fz dy,fz (show s < 4294967296 by omega),dT (show (s:Int)≤1 by omega)] at a7
  rw [a7]
  unfold jj iL
  grind
theorem aao (us vs:List Int) (i k g s:Int) (G:List Int) (n j:Int) (qs:List Int) (h:uY us vs i k g s G n j qs):∃ r:List Int×Int×Int,bT Tryz.prog 2 (lb 172 fY) (jj us vs i k g s G n j qs) (iL us vs i k g s G n j qs) (.exit 4) (jj r.1 vs i k g r.2.1 G n r.2.2 qs) (iL r.1 vs i k g r.2.1 G n r.2.2 qs)∧zp us vs i k g s G n j qs r:=by
 obtain ⟨i,rfl,I,J,hb,hi,rfl,rfl,rfl⟩:=h
 unfold zp
 rw [Int.toNat_natCast]
 exact SU vs G qs k g J i G.length 0 0 (vL us) us (by omega) I hb hi (by omega) ⟨by rw [List.take_zero,cF];simp⟩
def G0 (Z:List Int→List Int→Int→Int→Int→Int→List Int→Int→Int→List Int→Bool) (O:List Int→List Int→Int→Int→Int→Int→List Int→Int→Int→List Int→List Int×Int×Int) (T:List AV) (H:Hp):Option (Bool×Ex×List AV×Hp):=
 match al T 0,al T 1,al T 2,al T 7,al T 9,al T 15,al T 157,al T 158,al T 159,H with
 | .sl false 129 0 0 U, .lst false 129 J G, .val (.int .i64 i), .val (.int .i64 k), .val (.int .u64 g), .val (.int .u32 s), .lst false 129 M I, .val (.int .i64 n), .val (.int .i64 j), [.row (.ints .u32 us) 129 .live, .row (.ints .u32 qs) 129 .live]=>bif T.length==194 then some (okB J G&&okB M I&&decide (U=us.length)&&Z us (rowOf J G) i k g s (rowOf M I) n j qs, .exit 4,jj ((O us (rowOf J G) i k g s (rowOf M I) n j qs).1) (rowOf J G) i k g ((O us (rowOf J G) i k g s (rowOf M I) n j qs).2.1) (rowOf M I) n ((O us (rowOf J G) i k g s (rowOf M I) n j qs).2.2) qs,iL ((O us (rowOf J G) i k g s (rowOf M I) n j qs).1) (rowOf J G) i k g ((O us (rowOf J G) i k g s (rowOf M I) n j qs).2.1) (rowOf M I) n ((O us (rowOf J G) i k g s (rowOf M I) n j qs).2.2) qs) else none
 | _,_,_,_,_,_,_,_,_,_=>none
abbrev BE:Type:=List Int→List Int→Int→Int→Int→Int→List Int→Int→Int→List Int→Bool
abbrev Bi:Type:=List Int→List Int→Int→Int→Int→Int→List Int→Int→Int→List Int→List Int×Int×Int
def J0 (G:BE) (I:Bi) (L:aC):aC:=bp 2 172 fY [0,1,2,7,9,15,157,158,159] (G0 G I) L
def jh (us vs:List Int) (i k g s:Int) (G:List Int) (n j:Int) (qs:List Int):List Int×Int×Int:=Classical.epsilon fun ρ=>bT Tryz.prog 2 (lb 172 fY) (jj us vs i k g s G n j qs) (iL us vs i k g s G n j qs) (.exit 4) (jj (ρ.1) vs i k g (ρ.2.1) G n (ρ.2.2) qs) (iL (ρ.1) vs i k g (ρ.2.1) G n (ρ.2.2) qs)∧zp us vs i k g s G n j qs ρ
theorem N0 (us vs:List Int) (i k g s:Int) (G:List Int) (n j:Int) (qs:List Int) (h:uY us vs i k g s G n j qs):bT Tryz.prog 2 (lb 172 fY) (jj us vs i k g s G n j qs) (iL us vs i k g s G n j qs) (.exit 4) (jj ((jh us vs i k g s G n j qs).1) vs i k g ((jh us vs i k g s G n j qs).2.1) G n ((jh us vs i k g s G n j qs).2.2) qs) (iL ((jh us vs i k g s G n j qs).1) vs i k g ((jh us vs i k g s G n j qs).2.1) G n ((jh us vs i k g s G n j qs).2.2) qs)∧zp us vs i k g s G n j qs (jh us vs i k g s G n j qs):=Classical.epsilon_spec (aao us vs i k g s G n j qs h)
def rk (us vs:List Int) (i k g s:Int) (G:List Int) (n j:Int) (qs:List Int):Bool:= @decide (uY us vs i k g s G n j qs) (Classical.propDecidable _)
theorem VX (us vs:List Int) (i k g s:Int) (G:List Int) (n j:Int) (qs:List Int) (h:uY us vs i k g s G n j qs):rk us vs i k g s G n j qs=true:= @decide_eq_true _ (Classical.propDecidable _) h
theorem afZ (T:List AV) (H:Hp) (e:Ex) (J:List AV) (I:Hp) (h:G0 rk jh T H=some (true,e,J,I)):V.Ends Tryz.prog false 2 0 (.loop (lb 172 fY)) T H e J I:=by
 unfold G0 at h
 split at h
 ·rename_i ct b7 U i k g s ch Z n j us qs ab aE bD b0 b1 a1 a6 a7 bx
  rw [Bool.cond_eq_ite] at h
  split at h
  ·rename_i M
   rw [beq_iff_eq] at M
   simp only [Option.some.injEq,Prod.mk.injEq,Bool.and_eq_true,decide_eq_true_eq] at h
   obtain ⟨⟨⟨⟨k1,b3⟩,b4⟩,b5⟩,rfl,rfl,rfl⟩:=h
   have b6:= @of_decide_eq_true _ (Classical.propDecidable _) b5
   refine Ends.pre (N0 us (rowOf b7 U) i k g s (rowOf ch Z) n j qs b6).1.ends (fun α B w D c0 b2=>bq M (fun p O y G=> ?_) b2)
   simp only [List.mem_cons,List.not_mem_nil,or_false] at O
   rcases O with rfl | rfl | rfl | rfl | rfl | rfl | rfl | rfl | rfl
   ·rw [ab] at G;rw [← b4];exact G
   ·rw [aE] at G;rw [cA];exact cE cy k1 G
   ·rw [bD] at G;exact G
   ·rw [b0] at G;exact G
   ·rw [b1] at G;exact G
   ·rw [a1] at G;exact G
   ·rw [a6] at G;rw [cA];exact cE cy b3 G
   ·rw [a7] at G;exact G
   ·rw [bx] at G;exact G
  ·cases h
 ·cases h
theorem RN {L:aC} (h:aB Tryz.prog L):aB Tryz.prog (J0 rk jh L):=h.bz Tf afZ
end
end Go.Proofs.YtamcpiicmfielaaGreat.L
namespace Go.Proofs.YtamcpiicmfielaaGreat.L
open Go Go.V Go.RowKit Go.Proofs.YtamcpiicmfielaaGreat.Sp Go.Proofs.YtamcpiicmfielaaGreat.F Go.Proofs.YtamcpiicmfielaaGreatW.PrintWords
open Go.Proofs (Tryz.prog)
noncomputable section
def Ba (G:BG) (M:Bk) (I:BI) (O:Bm) (J:BE) (U:Bi):Env:= ⟨aw 154 AA aK,au,J2 G M (J5 I O (J0 J U aq))⟩
abbrev ew:List Bool:= [false,true,false,true,true,true,true,true,true]
def eK (k0:Int) (us vs qs:List Int) (i:Int):List AV:=ar 73 [(8, .val (.int .i64 k0)),(9, .sl false 129 0 0 us.length),(10, .lst false 129 vs.length (lim vs)),(11, .sl false 129 1 0 qs.length),(12, .val (.int .i64 i))]
def dV (k0:Int) (us vs qs:List Int) (i:Int):Hp:= [.row (.ints .u32 us) 129 .live, .row (.ints .u32 qs) 129 .live]
theorem Tp:aH Tryz.prog 152 ew=some (.loop (lb 152 ew)):=by kernel_rfl
theorem U9:aH Tryz.prog 152 (false :: ew)=some (lb 152 ew):=by kernel_rfl
theorem O2 (bx:BG) (b1:Bk) (bD:BI) (b2:Bm) (b0:BE) (b3:Bi) (k0:Int) (us vs qs:List Int) (i:Int):letI M:=(rowOf vs.length (lim vs));letI G:=(rowOf M.length (lim M));letI J:=(i+(↑vs.length:Int));letI O:=(0+J.toNat*1);letI a1:=(i+(↑vs.length:Int) - (1:Int));letI a6:=(cm BinOp.or IntKind.u64 (IntKind.u64.wrap (us.getD O (0:Int)*(4294967296:Int))) (us.getD (0+a1.toNat*1) (0:Int)));letI aE:=((↑vs.length:Int) - (1:Int));letI ab:=(vs.getD aE.toNat (0:Int));letI Z:=(b1 us M i (↑vs.length:Int) (IntKind.u64.wrap (a6.tdiv ab)) (a6.tmod ab) qs);letI I:=(b2 us G i (↑vs.length:Int) Z.fst (0:Int) (0:Int) G (↑M.length:Int) (0:Int) qs);letI a7:=(I.fst.set O ((I.fst.getD O (0:Int)+(8589934592:Int) - IntKind.u32.wrap I.snd.fst - I.snd.snd.fst) % (4294967296:Int)));letI U:=(b3 a7 (rowOf G.length (lim G)) i (↑vs.length:Int) Z.fst (0:Int) (rowOf G.length (lim G)) (↑G.length:Int) (0:Int) qs);
  (aO Tryz.prog (Ba bx b1 bD b2 b0 b3) 152 [8,9,10,11,12] (lb 152 ew) (false :: ew) (eK k0 us vs qs i) (dV k0 us vs qs i)=(bif decide ((0:Int)≤i) then (bif decide (0+us.length*1≤us.length) then (bif ai IntKind.i64 J then (bif decide ((0:Int)≤i+(↑vs.length:Int))&&decide (i+(↑vs.length:Int) < (↑us.length:Int)) then (bif decide (0+J.toNat*1 < us.length) then (bif ai IntKind.u64 (us.getD O (0:Int)) then (bif ai IntKind.i64 J then (bif ai IntKind.i64 a1 then (bif decide ((0:Int)≤i+(↑vs.length:Int) - (1:Int))&&decide (i+(↑vs.length:Int) - (1:Int) < (↑us.length:Int)) then (bif decide (0+a1.toNat*1 < us.length) then (bif ai IntKind.u64 (us.getD (0+a1.toNat*1) (0:Int)) then (bif ai IntKind.i64 aE then (bif decide ((0:Int)≤(↑vs.length:Int) - (1:Int))&&decide ((↑vs.length:Int) - (1:Int) < (↑vs.length:Int)) then (bif ai IntKind.u64 ab then (bif decide (vs.getD aE.toNat (0:Int)=(0:Int)) then none else (bif ai IntKind.i64 aE then (bif decide ((0:Int)≤(↑vs.length:Int) - (1:Int))&&decide ((↑vs.length:Int) - (1:Int) < (↑vs.length:Int)) then (bif ai IntKind.u64 ab then (bif decide (vs.getD aE.toNat (0:Int)=(0:Int)) then none else (bif okB vs.length (lim vs)&&decide (us.length=us.length)&&bx us M i (↑vs.length:Int) (IntKind.u64.wrap (a6.tdiv ab)) (a6.tmod ab) qs then (bif okB M.length (lim M)&&okB M.length (lim M)&&decide (us.length=us.length)&&bD us G i (↑vs.length:Int) Z.fst (0:Int) (0:Int) G (↑M.length:Int) (0:Int) qs then (bif ai IntKind.i64 J then (bif ai IntKind.i64 J then (bif decide ((0:Int)≤i+(↑vs.length:Int))&&decide (i+(↑vs.length:Int) < (↑I.fst.length:Int)) then (bif decide (0+J.toNat*1 < I.fst.length) then (bif bZ (I.fst.getD O (0:Int))&&bZ (IntKind.u32.wrap I.snd.fst)&&decide ((0:Int)≤I.snd.snd.fst)&&decide (I.snd.snd.fst≤(1:Int)) then (bif decide ((0:Int)≤i+(↑vs.length:Int))&&decide (i+(↑vs.length:Int) < (↑I.fst.length:Int)) then (bif decide (0+J.toNat*1 < I.fst.length) then (bif decide ((if I.fst.getD O (0:Int) < IntKind.u32.wrap I.snd.fst+I.snd.snd.fst then (1:Int) else (0:Int))=(0:Int)) then (bif decide ((0:Int)≤i)&&decide (i < (↑qs.length:Int)) then (bif decide (0+i.toNat*1 < qs.length) then (bif ai IntKind.i64 (i - (1:Int)) then some (.normal,ar 73 [(8,(.val (.int .i64 k0))),(9,(.sl false 129 0 0 us.length)),(10,(.lst false 129 vs.length (lim vs))),(11,(.sl false 129 1 0 qs.length)),(12,(.val (.int .i64 (i - (1:Int)))))], [(.row (.ints .u32 a7) 129 .live),(.row (.ints .u32 (qs.set (0+i.toNat*1) (IntKind.u32.wrap Z.fst))) 129 .live)]) else none) else none) else none) else (bif okB G.length (lim G)&&okB G.length (lim G)&&decide (I.fst.length=a7.length)&&b0 a7 (rowOf G.length (lim G)) i (↑vs.length:Int) Z.fst (0:Int) (rowOf G.length (lim G)) (↑G.length:Int) (0:Int) qs then (bif ai IntKind.i64 J then (bif decide ((0:Int)≤i+(↑vs.length:Int))&&decide (i+(↑vs.length:Int) < (↑U.fst.length:Int)) then (bif decide (0+J.toNat*1 < U.fst.length) then (bif decide ((0:Int)≤i+(↑vs.length:Int))&&decide (i+(↑vs.length:Int) < (↑U.fst.length:Int)) then (bif decide (0+J.toNat*1 < U.fst.length) then (bif decide ((0:Int)≤i)&&decide (i < (↑qs.length:Int)) then (bif decide (0+i.toNat*1 < qs.length) then (bif ai IntKind.i64 (i - (1:Int)) then some (.normal,ar 73 [(8,(.val (.int .i64 k0))),(9,(.sl false 129 0 0 us.length)),(10,(.lst false 129 vs.length (lim vs))),(11,(.sl false 129 1 0 qs.length)),(12,(.val (.int .i64 (i - (1:Int)))))], [(.row (.ints .u32 (U.fst.set O (IntKind.u32.wrap (U.fst.getD O (0:Int)+U.snd.fst)))) 129 .live),(.row (.ints .u32 (qs.set (0+i.toNat*1) (IntKind.u32.wrap (IntKind.u64.wrap (Z.fst - (1:Int)))))) 129 .live)]) else none) else none) else none) else none) else none) else none) else none) else none) else none)) else none) else none) else none) else none) else none) else none) else none) else none) else none)) else none) else none) else none)) else none) else none) else none) else none) else none) else none) else none) else none) else none) else none) else none) else none) else none) else some ((.exit 0),ar 73 [(8,(.val (.int .i64 k0))),(9,(.sl false 129 0 0 us.length)),(10,(.lst false 129 vs.length (lim vs))),(11,(.sl false 129 1 0 qs.length)),(12,(.val (.int .i64 i)))], [(.row (.ints .u32 us) 129 .live),(.row (.ints .u32 qs) 129 .live)]))):=by kernel_rfl
theorem Gc {k0:Int} {us vs qs:List Int} {i:Int} {e:Ex} {T:List AV} {H:Hp} (h:aO Tryz.prog (Ba rl me rm gH rk jh) 152 [8,9,10,11,12] (lb 152 ew) (false :: ew) (eK k0 us vs qs i) (dV k0 us vs qs i)=some (e,T,H)):V.Ends Tryz.prog false 0 0 (lb 152 ew) (eK k0 us vs qs i) (dV k0 us vs qs i) e T H:=
 bF ((aJ _).add LI) (RX (Sh (RN aB.none))).ok mixed U9 h
theorem YY {u w:List Int} {n:Nat} (h:u.drop n=w.drop n):u.getD n 0=w.getD n 0:=by
 have:=congrArg (fun l=>l[0]?) h
 simp only [List.getElem?_drop,Nat.add_zero] at this
 rw [List.getD_eq_getElem?_getD,List.getD_eq_getElem?_getD,this]
theorem WZ (k0:Int) (us vs qs:List Int) (i:Nat) (b4:aI us) (bD:aI vs) (h0:2≤vs.length) (hi:i+vs.length < us.length) (hb:us.length≤17592186044416) (M:Nat) (k2:M < 4294967296) (h8:2147483648≤M) (en:vs.getD (vs.length - 1) 0=(M:Int)) (aE:vL us < 4294967296 ^ (i+1)*vL vs) (hY:i < qs.length):
  ∃ (q:Nat) (a7:List Int),q < 4294967296∧aI a7∧a7.length=us.length∧vL a7+4294967296 ^ i*(q*vL vs)=vL us∧vL a7 < 4294967296 ^ i*vL vs∧
   V.Ends Tryz.prog false 0 0 (lb 152 ew) (eK k0 us vs qs i) (dV k0 us vs qs i) .normal (eK k0 a7 vs (qs.set i (q:Int)) ((i:Int) - 1)) (dV k0 a7 vs (qs.set i (q:Int)) ((i:Int) - 1)):=by
 have h6:i+vs.length < us.length:=hi
 have h7:i+vs.length - 1 < us.length:=by omega
 have c3:i+vs.length+1≤us.length:=by omega
 obtain ⟨G,e6,kc,ec⟩:=cH b4 _ h6
 obtain ⟨x1,ix,kd,fc⟩:=cH b4 _ h7
 have h5:G*4294967296+x1 < 18446744073709551616:=by omega
 have b1:=dP bD
 have fa:vL (us.drop (i+vs.length+1))=0:=by
  refine Q4 _ c3 (Nat.lt_of_lt_of_le aE ?_)
  rw [show i+vs.length+1=(i+1)+vs.length by omega,Nat.pow_add 4294967296 (i+1) vs.length]
  exact Nat.mul_le_mul_left _ (Nat.le_of_lt b1)
 have bx:0 < 4294967296 ^ i*vL vs:=by
  rcases Nat.eq_zero_or_pos (vL vs) with h | h
  ·rw [h,Nat.mul_zero] at aE;omega
  ·exact Nat.mul_pos (Nat.pow_pos (by decide)) h
 have b3:vL us / (4294967296 ^ i*vL vs)*(4294967296 ^ i*vL vs)≤vL us:=Nat.div_mul_le_self _ _
 have a1:vL us < (vL us / (4294967296 ^ i*vL vs)+1)*(4294967296 ^ i*vL vs):=by
  rw [Nat.add_mul,Nat.one_mul]
  exact Nat.lt_div_mul_add bx
 have e4:vL us / (4294967296 ^ i*vL vs) < 4294967296:=by
  rw [Nat.div_lt_iff_lt_mul bx,← Nat.mul_assoc,Nat.mul_comm 4294967296,← Nat.pow_succ]
  exact aE
 have eN:vc us vs i vs.length ((G*4294967296+x1) / M:Nat) ((G*4294967296+x1) % M:Nat) qs:= ⟨i,G,x1,M,rfl,rfl,b4,bD,h0,hi,hb,en,h8,aE,ec,fc,rfl,rfl⟩
 obtain ⟨_,g,g0,b2,ch,ct⟩:=N8 _ _ _ _ _ _ _ eN
 unfold yl at b2 ch
 rw [Int.toNat_natCast] at b2 ch
 generalize kz:vL us / (4294967296 ^ i*vL vs)=q at*
 have k1:=V7 _ _ _ _ _ _ _ eN
 have eR:vv us vs i vs.length g 0 0 vs vs.length 0 qs:= ⟨i,g,rfl,rfl,ct,b4,bD,hb,hi,rfl,rfl,rfl,rfl⟩
 obtain ⟨_,c,b,eh,eg,et,kk,eo,ep,b0,Z⟩:=Oh _ _ _ _ _ _ _ _ _ _ _ eR
 have iR:=Wj _ _ _ _ _ _ _ _ _ _ _ eR
 rw [Int.toNat_natCast] at b0 Z
 rw [Int.toNat_natCast] at Z
 have J:=O2 rl me rm gH rk jh k0 us vs qs i
 have e1:(i:Int)+(vs.length:Int)=((i+vs.length:Nat):Int):=by omega
 have hL:((i+vs.length:Nat):Int) - 1=((i+vs.length - 1:Nat):Int):=by omega
 have hM:(vs.length:Int) - 1=((vs.length - 1:Nat):Int):=by omega
 simp only [kE,e1,hL,hM,Int.toNat_natCast,Nat.zero_add,Nat.mul_one,ec,fc,en,yL G x1 e6 ix,
  show Int.tdiv ((G*4294967296+x1:Nat):Int) (M:Int)=(((G*4294967296+x1) / M:Nat):Int) from rfl,show Int.tmod ((G*4294967296+x1:Nat):Int) (M:Int)=(((G*4294967296+x1) % M:Nat):Int) from rfl,eU (a:=(G*4294967296+x1) / M) (Nat.lt_of_le_of_lt (Nat.div_le_self _ _) h5),k1,g0,iR,eh,eg] at J
 generalize gH us vs i vs.length g 0 0 vs vs.length 0 qs=ρ at*
 obtain ⟨I,k5⟩:=ρ
 simp only at eo ep b0 Z J eh eg
 have c5:i+vs.length < I.length:=by omega
 have ed:I.getD (i+vs.length) 0=(G:Int):=by rw [YY b0];exact ec
 have hQ:I[i+vs.length]=(G:Int):=by
  rw [List.getD_eq_getElem?_getD,List.getElem?_eq_getElem c5,Option.getD_some] at ed
  exact ed
 have hT:(G+8589934592 - c - b) % 4294967296+c+b=G+4294967296*(if G < c+b then 1 else 0):=by
  clear Z aE b3 a1 bx b1 J
  split <;> omega
 have hP:((G:Int)+8589934592 - (c:Int) - (b:Int)) % 4294967296=(((G+8589934592 - c - b) % 4294967296:Nat):Int):=by
  clear Z aE b3 a1 bx b1 J
  omega
 have hU:(G+8589934592 - c - b) % 4294967296 < 4294967296:=Nat.mod_lt _ (by decide)
 have fv:decide ((0:Int)≤(i:Int))=true:=dT (by omega)
 have ho:decide (us.length≤us.length)=true:=dT (by omega)
 have hD:ai .i64 ((i+vs.length:Nat):Int)=true:=bH _ (by omega)
 have hE:decide ((0:Int)≤((i+vs.length:Nat):Int))=true:=dT (by omega)
 have hF:decide (((i+vs.length:Nat):Int) < (us.length:Int))=true:=dT (by omega)
 have hG:decide (i+vs.length < us.length)=true:=dT (by omega)
 have hI:ai .u64 (G:Int)=true:=dj (by omega)
 have hJ:ai .i64 ((i+vs.length - 1:Nat):Int)=true:=bH _ (by omega)
 have hK:decide ((0:Int)≤((i+vs.length - 1:Nat):Int))=true:=dT (by omega)
 have gf:decide (((i+vs.length - 1:Nat):Int) < (us.length:Int))=true:=dT (by omega)
 have gn:decide (i+vs.length - 1 < us.length)=true:=dT (by omega)
 have hc:ai .u64 (x1:Int)=true:=dj (by omega)
 have hd:ai .i64 ((vs.length - 1:Nat):Int)=true:=bH _ (by omega)
 have hf:decide ((0:Int)≤((vs.length - 1:Nat):Int))=true:=dT (by omega)
 have hg:decide (((vs.length - 1:Nat):Int) < (vs.length:Int))=true:=dT (by omega)
 have hh:ai .u64 (M:Int)=true:=dj (by omega)
 have hj:decide ((M:Int)=0)=false:=dF (by omega)
 have hl:decide (us.length=us.length)=true:=dT rfl
 have hn:decide (((i+vs.length:Nat):Int) < (I.length:Int))=true:=dT (by omega)
 have hq:decide (i+vs.length < I.length)=true:=dT c5
 have hr:bZ (G:Int)=true:=fz e6
 have hs:IntKind.u32.wrap (c:Int)=(c:Int):=by rw [dH,Nat.mod_eq_of_lt et]
 have ht:bZ (c:Int)=true:=fz et
 have hv:decide ((0:Int)≤(b:Int))=true:=dT (by omega)
 have hx:decide ((b:Int)≤1)=true:=dT (by omega)
 have hy:decide ((i:Int) < (qs.length:Int))=true:=dT (by omega)
 have hz:decide (i < qs.length)=true:=dT hY
 have hA:ai .i64 ((i:Int) - 1)=true:=aM (by omega)
 have hB:okB vs.length (lim vs)=true:=jg bD
 simp only [fv,ho,hD,hE,hF,hG,hI,hJ,hK,gf,gn,hc,hd,hf,hg,hh,hj,hl,hn,hq,ed,hr,hs,ht,hv,hx,hy,hz,hA,hB,hP] at J
 clear fv ho hD hE hF hG hI hJ hK gf gn hc hd hf hg hh hj hl hn hq hr hs ht hv hx hy hz hA hB
 generalize ev:(if G < c+b then 1 else 0:Nat)=b5 at*
 generalize kl:(G+8589934592 - c - b) % 4294967296=D at*
 have c4:=oX I (i+vs.length) c5 (D:Int)
 rw [hQ,Int.toNat_natCast,Int.toNat_natCast] at c4
 have U:=afM (T:=0) Z c4 hT
 have c7:aI (I.set (i+vs.length) (D:Int)):=fC eo _ _ (Int.natCast_nonneg _) (Int.ofNat_lt.2 hU)
 have a6:(I.set (i+vs.length) (D:Int)).length=us.length:=by rw [List.length_set];exact ep
 have hV:∀ w:List Int,w.drop (i+vs.length)=us.drop (i+vs.length)→w.drop (i+vs.length+1)=us.drop (i+vs.length+1):=by
  intro w h9
  have:=congrArg (fun l=>l.drop 1) h9
  simpa [List.drop_drop] using this
 have e7:(I.set (i+vs.length) (D:Int)).drop (i+vs.length+1)=us.drop (i+vs.length+1):=by
  rw [List.drop_set_of_lt (by omega)]
  exact hV _ b0
 have iQ:vL (I.set (i+vs.length) (D:Int)) < 4294967296 ^ (i+vs.length+1):=Q5 c7 _ (by rw [a6];exact c3) (by rw [e7];exact fa)
 have b6:∀ z:Nat,4294967296 ^ i*(z*vL vs)=z*(4294967296 ^ i*vL vs):=fun z=>by rw [Nat.mul_left_comm]
 have e3:4294967296 ^ (i+vs.length)*4294967296=4294967296 ^ (i+vs.length+1):=(Nat.pow_succ ..).symm
 rw [b6,e3] at U
 have hN:(if (G:Int) < (c:Int)+(b:Int) then (1:Int) else 0)=(b5:Int):=by
  rw [← ev]
  clear Z aE b3 a1 bx b1 J U c4
  split <;> split <;> omega
 have ab:b5=0∨b5=1:=by
  rw [← ev]
  by_cases h:G < c+b
  ·right;rw [if_pos h]
  ·left;rw [if_neg h]
 simp only [hN] at J
 rcases ab with ab | ab
 ·-- the guess was right
  rw [ab,Nat.mul_zero,Nat.add_zero] at U
  have c0:=YH U a1 b2
  refine ⟨g,I.set (i+vs.length) (D:Int),ct,c7,a6,by rw [b6];exact U, ?_,Gc ?_⟩
  ·rw [Nat.add_mul,Nat.one_mul] at a1
   rw [← c0] at a1
   omega
  ·rw [ab] at J
   rw [show IntKind.u32.wrap (g:Int)=(g:Int) by rw [dH,Nat.mod_eq_of_lt ct],dT (show ((0:Nat):Int)=0 from rfl)] at J
   rw [J]
   unfold eK dV
   rw [a6,List.length_set]
   rfl
 ·-- the guess was one too great
  rw [ab,Nat.mul_one] at U
  have c0:=YI U iQ b3 b2 ch
  have e2:uY (I.set (i+vs.length) (D:Int)) vs i vs.length g 0 vs vs.length 0 qs:= ⟨i,rfl,c7,bD,by rw [a6];exact hb,by rw [a6];exact hi,rfl,rfl,rfl⟩
  obtain ⟨_,s,fs,k4,dx,dy,ea,eb⟩:=N0 _ _ _ _ _ _ _ _ _ _ e2
  have jw:=VX _ _ _ _ _ _ _ _ _ _ e2
  rw [Int.toNat_natCast] at ea eb
  rw [ab] at J
  rw [dF (show ¬ ((1:Nat):Int)=0 by omega),jw,fs] at J
  generalize jh (I.set (i+vs.length) (D:Int)) vs i vs.length g 0 vs vs.length 0 qs=kb at*
  obtain ⟨O,k6⟩:=kb
  simp only at dx dy ea eb J fs
  have c6:i+vs.length < O.length:=by rw [dy,a6];exact hi
  obtain ⟨z,k3,hR,ka⟩:=cH dx _ c6
  have h4:=oX O (i+vs.length) c6 (((z+s) % 4294967296:Nat):Int)
  rw [hR,Int.toNat_natCast,Int.toNat_natCast] at h4
  have h3:(z+s) % 4294967296 < 4294967296:=Nat.mod_lt _ (by decide)
  have ez:aI (O.set (i+vs.length) (((z+s) % 4294967296:Nat):Int)):=fC dx _ _ (Int.natCast_nonneg _) (Int.ofNat_lt.2 h3)
  have b7:(O.set (i+vs.length) (((z+s) % 4294967296:Nat):Int)).length=us.length:=by rw [List.length_set,dy,a6]
  have ks:vL (O.set (i+vs.length) (((z+s) % 4294967296:Nat):Int)) < 4294967296 ^ (i+vs.length+1):=by
   refine Q5 ez _ (by rw [b7];exact c3) ?_
   rw [List.drop_set_of_lt (by omega)]
   have:=congrArg (fun l=>l.drop 1) ea
   simp only [List.drop_drop] at this
   rw [this,e7]
   exact fa
  have kx:(z+s) / 4294967296≤1:=by omega
  have h2:=Nat.mod_add_div (z+s) 4294967296
  have e5:vL (O.set (i+vs.length) (((z+s) % 4294967296:Nat):Int))+4294967296 ^ (i+vs.length+1)*((z+s) / 4294967296)=vL (I.set (i+vs.length) (D:Int))+4294967296 ^ i*vL vs:=by
   rw [← eb,← e3]
   have eu:=congrArg (4294967296 ^ (i+vs.length)* ·) h2
   simp only [Nat.mul_add] at eu
   rw [← Nat.mul_assoc] at eu
   omega
  have ih:IntKind.u32.wrap ((z:Int)+(s:Int))=(((z+s) % 4294967296:Nat):Int):=by rw [← Int.natCast_add,dH]
  have ie:IntKind.u32.wrap (IntKind.u64.wrap ((g:Int) - 1))=(q:Int):=by
   have:IntKind.u64.wrap ((g:Int) - 1)=((q:Nat):Int):=(H9 (by omega) (by omega)).trans (by omega)
   rw [this,dH,Nat.mod_eq_of_lt e4]
  have hW:aO Tryz.prog (Ba rl me rm gH rk jh) 152 [8,9,10,11,12] (lb 152 ew) (false :: ew) (eK k0 us vs qs i) (dV k0 us vs qs i)=some (.normal,eK k0 (O.set (i+vs.length) (((z+s) % 4294967296:Nat):Int)) vs (qs.set i (q:Int)) ((i:Int) - 1),dV k0 (O.set (i+vs.length) (((z+s) % 4294967296:Nat):Int)) vs (qs.set i (q:Int)) ((i:Int) - 1)):=by
   rw [List.length_set,dT (show I.length=I.length from rfl),dT (show ((i+vs.length:Nat):Int) < (O.length:Int) by omega),dT c6,ka,ih,ie] at J
   rw [J]
   unfold eK dV
   rw [b7,List.length_set]
   rfl
  generalize eL:vL (O.set (i+vs.length) (((z+s) % 4294967296:Nat):Int))=hS at*
  generalize (z+s) / 4294967296=o at*
  have hX:hS+q*(4294967296 ^ i*vL vs)=vL us:=by
   rw [c0,Nat.add_mul,Nat.one_mul] at U
   rcases (show o=0∨o=1 by omega) with h | h
   ·rw [h,Nat.mul_zero,Nat.add_zero] at e5
    omega
   ·rw [h,Nat.mul_one] at e5
    omega
  refine ⟨q,O.set (i+vs.length) (((z+s) % 4294967296:Nat):Int),e4,ez,b7,by rw [b6,eL];exact hX, ?_,Gc hW⟩
  rw [eL]
  rw [Nat.add_mul,Nat.one_mul] at a1
  omega
def u7 (k0:Int) (us vs qs:List Int) (i:Int):Prop:=∃ G:Nat,aI us∧aI vs∧aI qs∧2≤vs.length∧us.length≤17592186044416∧G < 4294967296∧2147483648≤G∧vs.getD (vs.length - 1) 0=G∧qs.length+vs.length=us.length∧vL us < 4294967296 ^ qs.length*vL vs∧i=(qs.length:Int) - 1
def Ez (k0:Int) (us vs qs:List Int) (i:Int) (r:List Int×List Int×Int):Prop:=aI r.1∧aI r.2.1∧r.1.length=us.length∧r.2.1.length=qs.length∧vL r.2.1=vL us / vL vs∧vL r.1=vL us % vL vs
theorem Xx (k0:Int) (vs:List Int) (b6:aI vs) (b5:2≤vs.length) (J:Nat) (b7:J < 4294967296) (ch:2147483648≤J) (a6:vs.getD (vs.length - 1) 0=(J:Int)) (L:Nat) (c4:L≤17592186044416) (A N:Nat) (d:Nat):
  ∀ (us qs:List Int),aI us→aI qs→us.length=L→qs.length=N→N+vs.length=L→d≤N→vL us < 4294967296 ^ d*vL vs→dQ (vL us+4294967296 ^ d*vL (qs.drop d)*vL vs=A)→
  ∃ r:List Int×List Int×Int,av Tryz.prog (lb 152 ew) (eK k0 us vs qs ((d:Int) - 1)) (dV k0 us vs qs ((d:Int) - 1)) (.exit 0) (eK k0 r.1 vs r.2.1 r.2.2) (dV k0 r.1 vs r.2.1 r.2.2)∧aI r.1∧aI r.2.1∧r.1.length=L∧r.2.1.length=N∧vL r.2.1=A / vL vs∧vL r.1=A % vL vs:=by
 induction d with
 | zero=>
  intro us qs Z O aE U ab b4 I M
  have G:=M.out
  rw [Nat.pow_zero,Nat.one_mul] at I
  rw [Nat.pow_zero,Nat.one_mul,List.drop_zero,Nat.mul_comm] at G
  have e1:A / vL vs=vL qs:=by rw [← G,Nat.add_comm,Nat.mul_add_div (by omega),Nat.div_eq_of_lt I];simp
  have a1:A % vL vs=vL us:=by rw [← G,Nat.add_comm,Nat.mul_add_mod,Nat.mod_eq_of_lt I]
  refine ⟨(us,qs,((0:Nat):Int) - 1), .last (Gc ?_) (by intro h;cases h),Z,O,aE,U,e1.symm,a1.symm⟩
  rw [O2]
  rfl
 | succ d ct=>
  intro us qs Z O aE U ab b4 I M
  obtain ⟨g,c0,a7,bx,c3,bD,b0,b1⟩:=WZ k0 us vs qs d Z b6 b5 (by omega) (by omega) J b7 ch a6 I (by omega)
  obtain ⟨r,b2,b3⟩:=ct c0 (qs.set d (g:Int)) bx (fC O _ _ (Int.natCast_nonneg _) (Int.ofNat_lt.2 a7)) (by omega) (by rw [List.length_set];exact U) ab (by omega) b0 (by
   constructor
   have G:=M.out
   rw [← G,← bD,List.drop_eq_getElem_cons (l:=qs.set d _) (by rw [List.length_set];omega),List.getElem_set_self,List.drop_set_of_lt (by omega),cj,Int.toNat_natCast,Nat.pow_succ]
   grind)
  refine ⟨r, ?_,b3⟩
  rw [show ((d+1:Nat):Int) - 1=(d:Int) by omega]
  exact .more b1 b2
theorem aav (k0:Int) (us vs qs:List Int) (i:Int) (h:u7 k0 us vs qs i):∃ r:List Int×List Int×Int,av Tryz.prog (lb 152 ew) (eK k0 us vs qs i) (dV k0 us vs qs i) (.exit 0) (eK k0 r.1 vs r.2.1 r.2.2) (dV k0 r.1 vs r.2.1 r.2.2)∧Ez k0 us vs qs i r:=by
 obtain ⟨a6,Z,ab,U,J,I,aE,a1,G,M,O,rfl⟩:=h
 exact Xx k0 vs ab J a6 aE a1 G us.length I (vL us) qs.length qs.length us qs Z U rfl rfl M (Nat.le_refl _) O ⟨by rw [List.drop_of_length_le (Nat.le_refl _),cF,Nat.mul_zero,Nat.zero_mul];rfl⟩
def G7 (U:Int→List Int→List Int→List Int→Int→Bool) (J:Int→List Int→List Int→List Int→Int→List Int×List Int×Int) (T:List AV) (H:Hp):Option (Bool×Ex×List AV×Hp):=
 match al T 8,al T 9,al T 10,al T 11,al T 12,H with
 | .val (.int .i64 k0), .sl false 129 0 0 O, .lst false 129 I G, .sl false 129 1 0 M, .val (.int .i64 i), [.row (.ints .u32 us) 129 .live, .row (.ints .u32 qs) 129 .live]=>bif T.length==73 then some (okB I G&&decide (O=us.length)&&decide (M=qs.length)&&U k0 us (rowOf I G) qs i, .exit 0,eK k0 ((J k0 us (rowOf I G) qs i).1) (rowOf I G) ((J k0 us (rowOf I G) qs i).2.1) ((J k0 us (rowOf I G) qs i).2.2),dV k0 ((J k0 us (rowOf I G) qs i).1) (rowOf I G) ((J k0 us (rowOf I G) qs i).2.1) ((J k0 us (rowOf I G) qs i).2.2)) else none
 | _,_,_,_,_,_=>none
abbrev BF:Type:=Int→List Int→List Int→List Int→Int→Bool
abbrev Bj:Type:=Int→List Int→List Int→List Int→Int→List Int×List Int×Int
def J1 (G:BF) (I:Bj) (L:aC):aC:=bp 0 152 ew [8,9,10,11,12] (G7 G I) L
def lA (k0:Int) (us vs qs:List Int) (i:Int):List Int×List Int×Int:=Classical.epsilon fun ρ=>av Tryz.prog (lb 152 ew) (eK k0 us vs qs i) (dV k0 us vs qs i) (.exit 0) (eK k0 (ρ.1) vs (ρ.2.1) (ρ.2.2)) (dV k0 (ρ.1) vs (ρ.2.1) (ρ.2.2))∧Ez k0 us vs qs i ρ
theorem N6 (k0:Int) (us vs qs:List Int) (i:Int) (h:u7 k0 us vs qs i):av Tryz.prog (lb 152 ew) (eK k0 us vs qs i) (dV k0 us vs qs i) (.exit 0) (eK k0 ((lA k0 us vs qs i).1) vs ((lA k0 us vs qs i).2.1) ((lA k0 us vs qs i).2.2)) (dV k0 ((lA k0 us vs qs i).1) vs ((lA k0 us vs qs i).2.1) ((lA k0 us vs qs i).2.2))∧Ez k0 us vs qs i (lA k0 us vs qs i):=Classical.epsilon_spec (aav k0 us vs qs i h)
def xS (k0:Int) (us vs qs:List Int) (i:Int):Bool:= @decide (u7 k0 us vs qs i) (Classical.propDecidable _)
theorem V4 (k0:Int) (us vs qs:List Int) (i:Int) (h:u7 k0 us vs qs i):xS k0 us vs qs i=true:= @decide_eq_true _ (Classical.propDecidable _) h
theorem af6 (T:List AV) (H:Hp) (e:Ex) (J:List AV) (I:Hp) (h:G7 xS lA T H=some (true,e,J,I)):V.Ends Tryz.prog false 0 0 (.loop (lb 152 ew)) T H e J I:=by
 unfold G7 at h
 split at h
 ·rename_i k0 b4 b2 U b3 i us qs a1 a6 Z ab aE
  rw [Bool.cond_eq_ite] at h
  split at h
  ·rename_i M
   rw [beq_iff_eq] at M
   simp only [Option.some.injEq,Prod.mk.injEq,Bool.and_eq_true,decide_eq_true_eq] at h
   obtain ⟨⟨⟨⟨k1,bx⟩,bD⟩,b0⟩,rfl,rfl,rfl⟩:=h
   have b1:= @of_decide_eq_true _ (Classical.propDecidable _) b0
   refine Ends.pre (N6 k0 us (rowOf b2 U) qs i b1).1.ends (fun α B w D b5 a7=>bq M (fun p O y G=> ?_) a7)
   simp only [List.mem_cons,List.not_mem_nil,or_false] at O
   rcases O with rfl | rfl | rfl | rfl | rfl
   ·rw [a1] at G;exact G
   ·rw [a6] at G;rw [← bx];exact G
   ·rw [Z] at G;rw [cA];exact cE cy k1 G
   ·rw [ab] at G;rw [← bD];exact G
   ·rw [aE] at G;exact G
  ·cases h
 ·cases h
theorem RU {L:aC} (h:aB Tryz.prog L):aB Tryz.prog (J1 xS lA L):=h.bz Tp af6
end
end Go.Proofs.YtamcpiicmfielaaGreat.L
namespace Go.Proofs.YtamcpiicmfielaaGreat.L
open Go Go.V Go.RowKit Go.Proofs.YtamcpiicmfielaaGreat.Sp Go.Proofs.YtamcpiicmfielaaGreat.F Go.Proofs.YtamcpiicmfielaaGreatW.PrintWords
open Go.Proofs (Tryz.prog)
noncomputable section
def Il (S:Sg):FuncId→List AV→Option (Bool×AV):=aw 107 (wD S) (aw 169 (GW S) (aw 140 (AE S) (aw 170 (GC S) (aw 158 (AF S) aK))))
theorem Rs:bf Tryz.prog (Il aa):=(((((aJ _).add LL).add XM).add LK).add Yp).add C7
def IB (S:Sg) (G:BS) (M:Bw) (I:BU) (O:Bx) (J:BF) (U:Bj):Env:= ⟨Il S,au,Kf G M (Kg I O (J1 J U aq))⟩
theorem C4 (S:Sg) (bx:BS) (b1:Bw) (bD:BU) (b2:Bx) (b0:BF) (b3:Bj) (I G:List Int):letI U:=(↑(S.bl (G.getD ((↑G.length:Int) - (1:Int)).toNat (0:Int)).toNat):Int);letI a6:=((↑I.length:Int)+(1:Int));letI M:=(b1 ((32:Int) - U) (List.replicate a6.toNat (0:Int)) (rowOf I.length (lim I)) (↑I.length:Int) (0:Int));letI ab:=((↑G.length:Int)+(1:Int));letI aE:=(b2 ((32:Int) - U) (List.replicate ab.toNat (0:Int)) (rowOf G.length (lim G)) (↑G.length:Int) (0:Int) M.fst);letI O:=(S.num aE.fst.length (lim aE.fst));letI Z:=((↑M.fst.length:Int) - (↑(S.len O):Int));letI J:=(b3 ((32:Int) - U) M.fst (rowOf (S.len O) (S.row O)) (List.replicate Z.toNat (0:Int)) ((↑Z.toNat:Int) - (1:Int)));letI a1:=(S.num J.fst.length (lim J.fst));letI a7:=(lim [(↑(S.num I.length (lim I) % (G.getD 0 (0:Int)).toNat):Int)]);
  (aF Tryz.prog (IB S bx b1 bD b2 b0 b3) 10 10 152 [.lst false 129 I.length (lim I), .lst false 129 G.length (lim G)]=(bif S.can I.length (lim I)&&S.can G.length (lim G) then (bif decide (S.cmp (S.num I.length (lim I)) (S.num G.length (lim G)) < (0:Int)) then some (.tup [(.val (.slice .none 0 0)),(.lst false 129 I.length (lim I))]) else (bif decide ((↑G.length:Int)=(1:Int)) then (bif decide ((0:Int) < (↑G.length:Int)) then (bif S.bU I.length (lim I)&&bZ (G.getD 0 (0:Int))&&decide ((0:Int) < G.getD 0 (0:Int)) then (bif S.bU 1 a7 then some (.tup [(.lst false 129 (S.len (S.num I.length (lim I) / (G.getD 0 (0:Int)).toNat)) (S.row (S.num I.length (lim I) / (G.getD 0 (0:Int)).toNat))),(.lst false 129 (S.len (S.num 1 a7)) (S.row (S.num 1 a7)))]) else none) else none) else none) else (bif ai IntKind.i64 ((↑G.length:Int) - (1:Int)) then (bif decide ((0:Int)≤(↑G.length:Int) - (1:Int))&&decide ((↑G.length:Int) - (1:Int) < (↑G.length:Int)) then (bif bZ (G.getD ((↑G.length:Int) - (1:Int)).toNat (0:Int)) then (bif ai IntKind.i64 a6 then (bif decide ((↑I.length:Int)+(1:Int)≤(↑I.length:Int)+(1:Int))&&decide ((4:Int)*a6≤(281474976710656:Int))&&decide ((↑I.length:Int)+(1:Int)≤(9223372036854775807:Int)) then (bif okB I.length (lim I)&&decide (a6.toNat=(List.replicate a6.toNat (0:Int)).length)&&bx ((32:Int) - U) (List.replicate a6.toNat (0:Int)) (rowOf I.length (lim I)) (↑I.length:Int) (0:Int) then (bif ai IntKind.i64 ab then (bif decide ((↑G.length:Int)+(1:Int)≤(↑G.length:Int)+(1:Int))&&decide ((4:Int)*ab≤(281474976710656:Int))&&decide ((↑G.length:Int)+(1:Int)≤(9223372036854775807:Int)) then (bif okB G.length (lim G)&&decide (ab.toNat=(List.replicate ab.toNat (0:Int)).length)&&bD ((32:Int) - U) (List.replicate ab.toNat (0:Int)) (rowOf G.length (lim G)) (↑G.length:Int) (0:Int) M.fst then (bif decide (0+aE.fst.length*1≤aE.fst.length) then (bif S.bU aE.fst.length (lim aE.fst) then (bif ai IntKind.i64 Z then (bif decide ((0:Int)≤(↑M.fst.length:Int) - (↑(S.len O):Int))&&decide ((↑M.fst.length:Int) - (↑(S.len O):Int)≤(↑M.fst.length:Int) - (↑(S.len O):Int))&&decide ((4:Int)*Z≤(281474976710656:Int))&&decide ((↑M.fst.length:Int) - (↑(S.len O):Int)≤(9223372036854775807:Int)) then (bif ai IntKind.i64 ((↑Z.toNat:Int) - (1:Int)) then (bif okB (S.len O) (S.row O)&&decide (M.fst.length=M.fst.length)&&decide (Z.toNat=(List.replicate Z.toNat (0:Int)).length)&&b0 ((32:Int) - U) M.fst (rowOf (S.len O) (S.row O)) (List.replicate Z.toNat (0:Int)) ((↑Z.toNat:Int) - (1:Int)) then (bif decide (0+J.snd.fst.length*1≤J.snd.fst.length) then (bif S.bU J.snd.fst.length (lim J.snd.fst) then (bif decide (0+J.fst.length*1≤J.fst.length) then (bif S.bU J.fst.length (lim J.fst) then (bif S.bU (S.len a1) (S.row a1)&&decide ((0:Int)≤(32:Int) - U)&&decide ((32:Int) - U≤(32:Int)) then some (.tup [(.lst false 129 (S.len (S.num J.snd.fst.length (lim J.snd.fst))) (S.row (S.num J.snd.fst.length (lim J.snd.fst)))),(.lst false 129 (S.len (S.num (S.len a1) (S.row a1) / 2 ^ ((32:Int) - U).toNat)) (S.row (S.num (S.len a1) (S.row a1) / 2 ^ ((32:Int) - U).toNat)))]) else none) else none) else none) else none) else none) else none) else none) else none) else none) else none) else none) else none) else none) else none) else none) else none) else none) else none) else none) else none))) else none)):=by kernel_rfl
theorem uU {n:Nat} (h:(toL n).length≤17592186044416):aa.bU (toL n).length (lim (toL n))=true:=by
 show (okB (toL n).length (lim (toL n))&&decide ((toL n).length≤17592186044416))=true
 rw [j8,decide_eq_true h];rfl
theorem gO {n:Nat} (h:(toL n).length≤17592186044416):aa.can (toL n).length (lim (toL n))=true:=by
 show (dS (toL n).length (lim (toL n))&&decide ((toL n).length≤17592186044416))=true
 rw [xH,decide_eq_true h];rfl
theorem mY (n:Nat):aa.num (toL n).length (lim (toL n))=n:=mZ n
theorem CW (a b:Nat):aa.cmp a b=if a < b then -1 else if b < a then 1 else 0:=rfl
abbrev IC:Env:=IB aa yh nz yi nA xS lA
abbrev divC (a b:Nat):Option AV:=aF Tryz.prog IC 10 10 152 [.lst false 129 (toL a).length (lim (toL a)), .lst false 129 (toL b).length (lim (toL b))]
theorem W8 (a b:Nat) (h:a < b) (ha:(toL a).length≤8796093022208) (hb:(toL b).length≤8796093022208):divC a b=some (.tup [.val (.slice none 0 0), .lst false 129 (toL a).length (lim (toL a))]):=by
 show aF _ _ _ _ _ _=_
 rw [C4,gO (by omega),gO (by omega),mY,mY,CW,if_pos h]
 rfl
theorem div_one (a b:Nat) (h:¬ a < b) (a6:0 < b) (a1:(toL b).length=1) (ha:(toL a).length≤8796093022208) (hb:(toL b).length≤8796093022208):divC a b=some (.tup [aa.fX (a / b),aa.fX (a % b)]):=by
 have J:toL b≠ []:=fun e=>by grind
 obtain ⟨t,ab,I,rt⟩:=cH (j9 b) 0 (by omega)
 have aE:0 < t:=by
  have:=H8 b J
  grind
 have M:b=t:=by
  have G:=nN (toL b) 0 (by omega)
  rw [List.drop_eq_getElem_cons (show 0 < (toL b).length by omega),I,List.drop_of_length_le (by omega),cj,cF,cY] at G
  simp [cF] at G
  exact G
 have O:¬ aa.cmp a b < 0:=by rw [CW,if_neg h];grind
 have a7:a % t < t:=Nat.mod_lt a aE
 have Z:aa.bU 1 (lim [((a % t:Nat):Int)])=true:=l9 (zs:= [((a % t:Nat):Int)]) (by rw [na];exact ⟨by omega,p8⟩) (by simp)
 have U:aa.num 1 (lim [((a % t:Nat):Int)])=a % t:=by
  have:=lZ [((a % t:Nat):Int)]
  rw [cj,cF,Int.toNat_natCast,Nat.mul_zero,Nat.add_zero] at this
  exact this
 show aF _ _ _ _ _ _=_
 rw [C4]
 simp only [mY,rt,Int.toNat_natCast,U]
 rw [gO (by omega),gO (by omega),dF O,dT (show ((toL b).length:Int)=1 by omega),dT (show (0:Int) < ((toL b).length:Int) by omega),uU (by omega),fz ab,dT (show (0:Int) < (t:Int) by omega),Z,M]
 rfl
theorem W6 (a b:Nat) (dy:¬ a < b) (hP:0 < b) (hM:¬ (toL b).length=1) (ha:(toL a).length≤8796093022208) (hb:(toL b).length≤8796093022208):divC a b=some (.tup [aa.fX (a / b),aa.fX (a % b)]):=by
 have ed:¬ aa.cmp a b < 0:=by rw [CW,if_neg dy];grind
 have hR:(toL b).length≤(toL a).length:=lk (Nat.lt_of_le_of_lt (by omega) (lX (Nat.le_refl _)))
 have b0:toL b≠ []:=fun e=>by have:=(toL_nil_iff b).1 e;omega
 have hS:0 < (toL b).length:=List.length_pos_iff.2 b0
 have b1:(toL b).length - 1 < (toL b).length:=by omega
 obtain ⟨t,b7,c5,rt⟩:=cH (j9 b) _ b1
 have hW:0 < t:=by
  have:=H8 b b0
  grind
 have hT:2≤(toL b).length:=by omega
 have hQ:aT t≤32:=CH (m:=32) b7
 have ea:0 < aT t:=by
  rcases Nat.eq_zero_or_pos (aT t) with h | h
  ·have:=(lP t).1
   grind
  ·exact h
 have b3:32 - aT t < 32:=by omega
 have c7:2 ^ (32 - aT t)*2 ^ aT t=4294967296:=by rw [← Nat.pow_add,show 32 - aT t+aT t=32 by omega]
 have eg:2 ^ (32 - aT t)*2 ^ (aT t - 1)=2147483648:=by rw [← Nat.pow_add,show 32 - aT t+(aT t - 1)=31 by omega]
 have ch:=Nat.mul_le_mul_left (2 ^ (32 - aT t)) ((lP t).2 ea)
 have eu:=Nat.mul_lt_mul_of_pos_left (lP t).1 (Nat.two_pow_pos (32 - aT t))
 rw [eg] at ch
 rw [c7] at eu
 have eo:2 ^ (32 - aT t)≤2 ^ 31:=Nat.pow_le_pow_right (by decide) (by omega)
 have M:=Nat.two_pow_pos (32 - aT t)
 have ec:=nN (toL b) ((toL b).length - 1) (by omega)
 rw [List.drop_eq_getElem_cons b1,c5,List.drop_of_length_le (by omega),cj,cF,cY,Int.toNat_natCast,Nat.mul_zero,Nat.add_zero] at ec
 have eb:=dP (oE (j9 b) ((toL b).length - 1))
 rw [List.length_take,Nat.min_eq_left (by omega)] at eb
 have b2:4294967296 ^ ((toL b).length - 1)*2147483648≤2 ^ (32 - aT t)*b:=by
  have e:2 ^ (32 - aT t)*(4294967296 ^ ((toL b).length - 1)*t)≤2 ^ (32 - aT t)*b:=Nat.mul_le_mul_left _ (by omega)
  refine Nat.le_trans ?_ e
  rw [Nat.mul_left_comm]
  exact Nat.mul_le_mul_left _ ch
 have eh:2 ^ (32 - aT t)*b < 4294967296 ^ (toL b).length:=by
  have e1:b < 4294967296 ^ ((toL b).length - 1)*(t+1):=by
   grind
  have I:2 ^ (32 - aT t)*(t+1)≤4294967296:=by
   have:t+1≤2 ^ aT t:=(lP t).1
   have:=Nat.mul_le_mul_left (2 ^ (32 - aT t)) this
   grind
  have J:=Nat.mul_lt_mul_of_pos_left e1 M
  rw [Nat.mul_left_comm] at J
  have Z:=Nat.mul_le_mul_left (4294967296 ^ ((toL b).length - 1)) I
  have bx:4294967296 ^ (toL b).length=4294967296 ^ ((toL b).length - 1)*4294967296:=by rw [← Nat.pow_succ];grind
  grind
 have c0:(toL (2 ^ (32 - aT t)*b)).length=(toL b).length:=by
  have bD:=lk eh
  rcases Nat.lt_or_ge (toL (2 ^ (32 - aT t)*b)).length (toL b).length with ab | ab
  ·exfalso
   have aE:=lX (n:=2 ^ (32 - aT t)*b) (m:=(toL b).length - 1) (by omega)
   grind
  ·omega
 have ct:(toL (2 ^ (32 - aT t)*b)).length - 1 < (toL (2 ^ (32 - aT t)*b)).length:=by omega
 obtain ⟨U,ev,c6,e6⟩:=cH (j9 (2 ^ (32 - aT t)*b)) _ ct
 have ez:2147483648≤U:=by
  have bD:=nN (toL (2 ^ (32 - aT t)*b)) ((toL (2 ^ (32 - aT t)*b)).length - 1) (by omega)
  rw [List.drop_eq_getElem_cons ct,c6,List.drop_of_length_le (by omega),cj,cF,cY,Int.toNat_natCast,Nat.mul_zero,Nat.add_zero] at bD
  have ab:=dP (oE (j9 (2 ^ (32 - aT t)*b)) ((toL (2 ^ (32 - aT t)*b)).length - 1))
  rw [List.length_take,Nat.min_eq_left (by omega)] at ab
  rw [← c0] at b2
  rcases Nat.lt_or_ge U 2147483648 with aE | aE
  ·exfalso
   have hN:=Nat.mul_le_mul_left (4294967296 ^ ((toL (2 ^ (32 - aT t)*b)).length - 1)) (show U+1≤2147483648 by omega)
   grind
  ·exact aE
 have b4:vU ((32 - aT t:Nat):Int) (List.replicate ((toL a).length+1) 0) (toL a) (toL a).length 0:= ⟨j9 a,lv _,rfl,by omega,rfl,rfl,_,rfl,b3⟩
 obtain ⟨_,hK,hX,O⟩:=OD _ _ _ _ _ b4
 have k1:=WJ _ _ _ _ _ b4
 rw [Int.toNat_natCast,cY] at O
 have e1:(32:Int) - (aa.bl t:Int)=((32 - aT t:Nat):Int):=by
  show (32:Int) - (aT t:Int)=_
  omega
 have I:((toL b).length:Int) - 1=(((toL b).length - 1:Nat):Int):=by omega
 have J:((toL a).length:Int)+1=(((toL a).length+1:Nat):Int):=by omega
 have Z:((toL b).length:Int)+1=(((toL b).length+1:Nat):Int):=by omega
 show aF _ _ _ _ _ _=_
 rw [C4]
 simp only [mY,I,Int.toNat_natCast,rt,e1,J,Z,kE,List.length_replicate,eq_self,decide_true,Nat.mul_one,Nat.zero_add,k1]
 generalize nz ((32 - aT t:Nat):Int) (List.replicate ((toL a).length+1) 0) (toL a) (toL a).length 0=G at*
 have b5:vV ((32 - aT t:Nat):Int) (List.replicate ((toL b).length+1) 0) (toL b) (toL b).length 0 G.1:= ⟨j9 b,lv _,rfl,by omega,rfl,rfl,_,rfl,b3⟩
 obtain ⟨_,w1,w2,w3⟩:=OE _ _ _ _ _ _ b5
 have eL:=WK _ _ _ _ _ _ b5
 rw [Int.toNat_natCast,cY] at w3
 simp only [eL]
 generalize nA ((32 - aT t:Nat):Int) (List.replicate ((toL b).length+1) 0) (toL b) (toL b).length 0 G.1=Wr at*
 have dx:aa.num Wr.1.length (lim Wr.1)=2 ^ (32 - aT t)*b:=by rw [lZ,w3]
 simp only [dx]
 have hU:aa.len (2 ^ (32 - aT t)*b)=(toL b).length:=c0
 have et:rowOf (aa.len (2 ^ (32 - aT t)*b)) (aa.row (2 ^ (32 - aT t)*b))=toL (2 ^ (32 - aT t)*b):=mq _
 have ep:okB (aa.len (2 ^ (32 - aT t)*b)) (aa.row (2 ^ (32 - aT t)*b))=true:=j8 _
 have bx:(G.1.length:Int) - ((aa.len (2 ^ (32 - aT t)*b):Nat):Int)=(((toL a).length+1 - (toL b).length:Nat):Int):=by grind
 simp only [et,ep,bx,Int.toNat_natCast]
 have hV:vL G.1 < 4294967296 ^ ((toL a).length+1 - (toL b).length)*vL (toL (2 ^ (32 - aT t)*b)):=by
  rw [O,cY]
  have e1:a < 4294967296 ^ (toL a).length:=lX (Nat.le_refl _)
  have I:=Nat.mul_le_mul_left (4294967296 ^ ((toL a).length+1 - (toL b).length)) b2
  rw [← Nat.mul_assoc,← Nat.pow_add,show (toL a).length+1 - (toL b).length+((toL b).length - 1)=(toL a).length by omega] at I
  have J:2 ^ (32 - aT t)*a < 2 ^ (32 - aT t)*4294967296 ^ (toL a).length:=Nat.mul_lt_mul_of_pos_left e1 M
  have Z:2 ^ (32 - aT t)*4294967296 ^ (toL a).length≤4294967296 ^ (toL a).length*2147483648:=by
   rw [Nat.mul_comm];exact Nat.mul_le_mul_left _ eo
  grind
 have b6:u7 ((32 - aT t:Nat):Int) G.1 (toL (2 ^ (32 - aT t)*b)) (List.replicate ((toL a).length+1 - (toL b).length) 0) ((((toL a).length+1 - (toL b).length:Nat):Int) - 1):= ⟨U,hK,j9 _,lv _,by omega,by omega,ev,ez,e6,by grind,by grind,by grind⟩
 obtain ⟨_,a1,c3,hL,c4,a6,a7⟩:=N6 _ _ _ _ _ b6
 have eN:=V4 _ _ _ _ _ b6
 rw [O,cY,Nat.mul_div_mul_left _ _ M] at a6
 rw [O,cY,Nat.mul_mod_mul_left] at a7
 rw [List.length_replicate] at c4
 simp only [eN,List.length_replicate,eq_self,decide_true]
 generalize lA ((32 - aT t:Nat):Int) G.1 (toL (2 ^ (32 - aT t)*b)) (List.replicate ((toL a).length+1 - (toL b).length) 0) ((((toL a).length+1 - (toL b).length:Nat):Int) - 1)=Q at*
 have en:(toL (vL Q.1)).length≤17592186044416:=Nat.le_trans (lk (dP a1)) (by omega)
 have eR:aa.num Q.2.1.length (lim Q.2.1)=a / b:=by rw [lZ,a6]
 have e2:aa.num Q.1.length (lim Q.1)=vL Q.1:=lZ _
 have e3:aa.num (aa.len (vL Q.1)) (aa.row (vL Q.1))=vL Q.1:=mZ _
 have e4:vL Q.1 / 2 ^ (32 - aT t)=a % b:=by rw [a7,Nat.mul_div_cancel_left _ M]
 have e5:aa.bU (aa.len (vL Q.1)) (aa.row (vL Q.1))=true:=uU en
 have e7:ai .i64 (((toL b).length - 1:Nat):Int)=true:=bH _ (by omega)
 have hh:decide ((0:Int)≤(((toL b).length - 1:Nat):Int))=true:=dT (by omega)
 have hy:decide ((((toL b).length - 1:Nat):Int) < ((toL b).length:Int))=true:=dT (by omega)
 have hD:ai .i64 (((toL a).length+1:Nat):Int)=true:=bH _ (by omega)
 have hE:decide ((((toL a).length+1:Nat):Int)≤(((toL a).length+1:Nat):Int))=true:=dT (by omega)
 have hF:decide ((4:Int)*(((toL a).length+1:Nat):Int)≤281474976710656)=true:=dT (by omega)
 have hG:decide ((((toL a).length+1:Nat):Int)≤9223372036854775807)=true:=dT (by omega)
 have hI:ai .i64 (((toL b).length+1:Nat):Int)=true:=bH _ (by omega)
 have hJ:decide ((((toL b).length+1:Nat):Int)≤(((toL b).length+1:Nat):Int))=true:=dT (by omega)
 have fa:decide ((4:Int)*(((toL b).length+1:Nat):Int)≤281474976710656)=true:=dT (by omega)
 have fc:decide ((((toL b).length+1:Nat):Int)≤9223372036854775807)=true:=dT (by omega)
 have fs:decide (Wr.1.length≤Wr.1.length)=true:=dT (by omega)
 have fv:aa.bU Wr.1.length (lim Wr.1)=true:=l9 w1 (by omega)
 have gf:ai .i64 (((toL a).length+1 - (toL b).length:Nat):Int)=true:=bH _ (by omega)
 have gn:decide ((0:Int)≤(((toL a).length+1 - (toL b).length:Nat):Int))=true:=dT (by omega)
 have hc:decide ((((toL a).length+1 - (toL b).length:Nat):Int)≤(((toL a).length+1 - (toL b).length:Nat):Int))=true:=dT (by omega)
 have hd:decide ((4:Int)*(((toL a).length+1 - (toL b).length:Nat):Int)≤281474976710656)=true:=dT (by omega)
 have hf:decide ((((toL a).length+1 - (toL b).length:Nat):Int)≤9223372036854775807)=true:=dT (by omega)
 have hg:ai .i64 ((((toL a).length+1 - (toL b).length:Nat):Int) - 1)=true:=aM (by omega)
 have hj:decide (Q.2.1.length≤Q.2.1.length)=true:=dT (by omega)
 have hl:aa.bU Q.2.1.length (lim Q.2.1)=true:=l9 c3 (by omega)
 have hn:decide (Q.1.length≤Q.1.length)=true:=dT (by omega)
 have ho:aa.bU Q.1.length (lim Q.1)=true:=l9 a1 (by omega)
 have hq:decide ((0:Int)≤((32 - aT t:Nat):Int))=true:=dT (by omega)
 have hr:decide (((32 - aT t:Nat):Int)≤32)=true:=dT (by omega)
 have hs:bZ (t:Int)=true:=fz b7
 have ht:decide (((toL b).length:Int)=1)=false:=dF (by omega)
 have hv:decide (aa.cmp a b < 0)=false:=dF ed
 have hx:aa.can (toL a).length (lim (toL a))=true:=gO (by omega)
 have hz:aa.can (toL b).length (lim (toL b))=true:=gO (by omega)
 have hA:okB (toL a).length (lim (toL a))=true:=j8 a
 have hB:okB (toL b).length (lim (toL b))=true:=j8 b
 rw [hx,hz,hv,ht]
 simp only [e7,hh,hy,hD,hE,hF,hG,hI,hJ,fa,fc,fs,fv,gf,gn,hc,hd,hf,hg,hj,hl,hn,ho,hq,hr,hs,hA,hB,eR,e2,e3,e5,e4]
 rfl
def Al (S:Sg) (args:List AV):Option (Bool×AV):=match args with | [.lst _ 129 m f, .lst _ 129 n g]=>some (S.can m f&&S.can n g&&S.aV m f&&S.aV n g&&decide (0 < S.num n g), .tup [S.fX (S.num m f / S.num n g),S.fX (S.num m f % S.num n g)]) | _=>none
theorem Lq:Entry Tryz.prog 152 (Al aa):=by
 refine iI (E:=IC) (u:=10) (d:=10) Rs (SI (SJ (RU aB.none))).ok (by kernel_rfl) (fun args r h=> ?_)
 unfold Al at h
 split at h
 ·rename_i fl m f b0 n g
  simp only [Option.some.injEq,Prod.mk.injEq,Bool.and_eq_true,decide_eq_true_eq] at h
  obtain ⟨⟨⟨⟨⟨b1,b2⟩,b3⟩,b4⟩,aE⟩,rfl⟩:=h
  obtain ⟨a7,ct,c0,c3,Z⟩:=tC b1
  obtain ⟨bx,c4,c5,c6,ab⟩:=tC b2
  obtain ⟨_,_,M,_⟩:=rY b3
  obtain ⟨_,_,O,_⟩:=rY b4
  rw [Z] at M
  rw [ab] at O
  have U:∀ (B:Nat→Prop) (w:World) (J:List Value),aj Tryz.prog cw B w [.lst fl 129 m f, .lst b0 129 n g] bo J→aj Tryz.prog cw B w [.lst false 129 (toL (aa.num m f)).length (lim (toL (aa.num m f))), .lst false 129 (toL (aa.num n g)).length (lim (toL (aa.num n g)))] bo J:=by
   intro B w J G
   rw [← Z,← ab]
   obtain ⟨y,zs,rfl,q1,q2⟩:=G
   obtain ⟨b7,zs,rfl,b5,b6⟩:=q2
   exact ⟨y,_,rfl,lu a7 q1,b7,_,rfl,lu bx b5,b6⟩
  generalize aa.num m f=a at*
  generalize aa.num n g=b at*
  by_cases I:a < b
  ·refine ⟨_,_,W8 a b I M O,U,fun B w y G=> ?_⟩
   obtain ⟨J,rfl,a6,ch,e1,q1,q2⟩:=G
   refine ⟨J,rfl,a6,ch,e1, ?_, ?_⟩
   ·rw [Nat.div_eq_of_lt I]
    have q1:a6= .slice none 0 0:=q1
    have bD:aa.len 0=0:=by show (toL 0).length=0;rw [toL_zero];rfl
    unfold Sg.fX
    rw [bD]
    exact ⟨none,0,q1,Nat.le_refl _,(fun h=>by cases h), .inl rfl⟩
   ·rw [Nat.mod_eq_of_lt I]
    exact q2
  ·by_cases a1:(toL b).length=1
   ·exact ⟨_,_,div_one a b I aE a1 M O,U,fun B w y G=>G⟩
   ·exact ⟨_,_,W6 a b I aE a1 M O,U,fun B w y G=>G⟩
 ·cases h
end
end Go.Proofs.YtamcpiicmfielaaGreat.L
