import Derived.Test.YtamcpiicmfielaaGreatZL
set_option linter.unusedVariables false
set_option linter.unusedSimpArgs false
namespace Go.Proofs.YtamcpiicmfielaaGreat.L
open Go Go.V Go.RowKit Go.Proofs.YtamcpiicmfielaaGreat.Sp Go.Proofs.YtamcpiicmfielaaGreat.F Go.Proofs.YtamcpiicmfielaaGreatW.PrintWords
open Go.Proofs (Tryz.prog)
noncomputable section
def Fx (j:Sg) (args:List AV):Option (Bool×AV):=match args with | [.val (.int .u32 x)]=>some (bS x, .val (.int .i64 (32 - (j.bl x.toNat:Int)))) | _=>none
theorem Vs:Entry Tryz.prog 170 (Fx aa):=by
 refine aX (E:= ⟨pT aa,ar,aq⟩) (u:=10) (d:=10) G3 aK mixed (by kernel_rfl) (fun args r h=> ?_)
 unfold Fx at h
 split at h
 ·rename_i x
  simp only [Option.some.injEq,Prod.mk.injEq] at h
  obtain ⟨j,rfl⟩:=h
  rw [Xl,j]
  obtain ⟨n,G,rfl⟩:=jF j
  have I:=Bn n 32 G
  rw [Int.toNat_natCast,aO (show -9223372036854775808≤(32:Int) - (aa.bl n:Int)∧(32:Int) - (aa.bl n:Int)≤9223372036854775807 by omega)]
  rfl
 ·cases h
def Ft (args:List AV):Option (Bool×AV):=match args with
 | [.val (.int .u32 x), .val (.int .u32 y), .val (.int .u32 z)]=>some (bS x&&bS y&&bS z&&decide (x < z), .tup [.val (.int .u32 ((x*4294967296+y) / z)), .val (.int .u32 ((x*4294967296+y) % z))])
 | _=>none
theorem xS (h l:Nat) (j:h < 4294967296) (G:l < 4294967296):bV .or .u64 (IntKind.u64.wrap ((h:Int)*4294967296)) (l:Int)=((h*4294967296+l:Nat):Int):=by
 have e:=Y9 h l j G
 rw [eF (a:=l) (by omega)] at e
 exact e
theorem Vm:Entry Tryz.prog 174 Ft:=by
 refine aX (E:=m9) (u:=10) (d:=10) (aH _) aK mixed (by kernel_rfl) (fun args r h=> ?_)
 unfold Ft at h
 split at h
 ·simp only [Option.some.injEq,Prod.mk.injEq,Bool.and_eq_true,decide_eq_true_eq] at h
  obtain ⟨⟨⟨⟨j,G⟩,I⟩,O⟩,rfl⟩:=h
  obtain ⟨x,M,rfl⟩:=jF j
  obtain ⟨y,N,rfl⟩:=jF G
  obtain ⟨z,U,rfl⟩:=jF I
  have J:(x*4294967296+y) / z < 4294967296:=by
   rw [Nat.div_lt_iff_lt_mul (by omega)]
   have:(x+1)*4294967296≤z*4294967296:=Nat.mul_le_mul_right _ (by omega)
   omega
  have S:(x*4294967296+y) % z < z:=Nat.mod_lt _ (by omega)
  rw [UF,dF (show ¬ (z:Int)=0 by omega),dF (show ¬ (z:Int)≤x by omega),cT (show 0≤(x:Int)∧(x:Int)≤18446744073709551615 by omega),cT (show 0≤(y:Int)∧(y:Int)≤18446744073709551615 by omega),cT (show 0≤(z:Int)∧(z:Int)≤18446744073709551615 by omega),xS x y M N]
  rw [show Int.tdiv ((x*4294967296+y:Nat):Int) (z:Int)=(((x*4294967296+y) / z:Nat):Int) from rfl,show Int.tmod ((x*4294967296+y:Nat):Int) (z:Int)=(((x*4294967296+y) % z:Nat):Int) from rfl,eF (by omega),dm,dm,Nat.mod_eq_of_lt J,Nat.mod_eq_of_lt (show (x*4294967296+y) % z < 4294967296 by omega)]
  rfl
 ·cases h
def Fp (args:List AV):Option (Bool×AV):=match args with
 | [.val (.int .u32 x), .val (.int .u32 y), .val (.int .u32 z)]=>some (bS x&&bS y&&bS z&&decide (z≤1), .tup [.val (.int .u32 ((x+y+z) % 4294967296)), .val (.int .u32 ((x+y+z) / 4294967296))])
 | _=>none
theorem Vj:Entry Tryz.prog 175 Fp:=by
 refine aX (E:=m9) (u:=10) (d:=10) (aH _) aK mixed (by kernel_rfl) (fun args r h=> ?_)
 unfold Fp at h
 split at h
 ·simp only [Option.some.injEq,Prod.mk.injEq,Bool.and_eq_true,decide_eq_true_eq] at h
  obtain ⟨⟨⟨⟨j,G⟩,I⟩,J⟩,rfl⟩:=h
  obtain ⟨x,M,rfl⟩:=jF j
  obtain ⟨y,N,rfl⟩:=jF G
  obtain ⟨z,O,rfl⟩:=jF I
  rw [QM,cT (show 0≤(x:Int)∧(x:Int)≤18446744073709551615 by omega),cT (show 0≤(y:Int)∧(y:Int)≤18446744073709551615 by omega),cT (show 0≤(z:Int)∧(z:Int)≤18446744073709551615 by omega),← Int.natCast_add,eF (show x+y < 18446744073709551616 by omega),← Int.natCast_add,eF (show x+y+z < 18446744073709551616 by omega),dm,ji,dm,Nat.mod_eq_of_lt (show (x+y+z) / 4294967296 < 4294967296 by omega)]
  rfl
 ·cases h
def zY:Env:= ⟨an 174 Ft aF,ar,aq⟩
theorem PR:bb Tryz.prog zY.C:=(aH _).add Vm
abbrev gg:List Bool:= [false,true,false,true,true,true]
def iY (j:List Int) (y:Int) (zs:List Int) (r:Int) (i:Int):List AV:=av 35 [(0, .lst false 129 j.length (ai j)),(1, .val (.int .u32 y)),(6, .sl false 129 0 0 zs.length),(7, .val (.int .u32 r)),(8, .val (.int .i64 i))]
def iC (j:List Int) (y:Int) (zs:List Int) (r:Int) (i:Int):Hp:= [.row (.ints .u32 zs) 129 .live]
theorem RO:aJ Tryz.prog 169 gg=some (.loop (lb 169 gg)):=by kernel_rfl
theorem Tq:aJ Tryz.prog 169 (false :: gg)=some (lb 169 gg):=by kernel_rfl
theorem Nr (j:List Int) (y:Int) (zs:List Int) (r:Int) (i:Int):aN Tryz.prog zY 169 [0,1,6,7,8] (lb 169 gg) (false :: gg) (iY j y zs r i) (iC j y zs r i)=
  (bif decide ((0:Int)≤i) then (bif decide ((0:Int)≤i)&&decide (i < (↑j.length:Int)) then (bif bS r&&bS (j.getD i.toNat (0:Int))&&bS y&&decide (r < y) then (bif decide ((0:Int)≤i)&&decide (i < (↑zs.length:Int)) then (bif decide ((0:Nat)+i.toNat*(1:Nat) < zs.length) then (bif aj IntKind.i64 (i - (1:Int)) then some (.normal,av 35 [(0,(.lst false 129 j.length (ai j))),(1,(.val (.int .u32 y))),(6,(.sl false 129 0 0 zs.length)),(7,(.val (.int .u32 ((r*(4294967296:Int)+j.getD i.toNat (0:Int)) % y)))),(8,(.val (.int .i64 (i - (1:Int)))))], [(.row (.ints .u32 (zs.set ((0:Nat)+i.toNat*(1:Nat)) ((r*(4294967296:Int)+j.getD i.toNat (0:Int)) / y))) 129 .live)]) else none) else none) else none) else none) else none) else some ((.exit 0),av 35 [(0,(.lst false 129 j.length (ai j))),(1,(.val (.int .u32 y))),(6,(.sl false 129 0 0 zs.length)),(7,(.val (.int .u32 r))),(8,(.val (.int .i64 i)))], [(.row (.ints .u32 zs) 129 .live)])):=by kernel_rfl
theorem Oz {j:List Int} {y:Int} {zs:List Int} {r:Int} {i:Int} {e:Ex} {T:List AV} {H:Hp} (h:aN Tryz.prog zY 169 [0,1,6,7,8] (lb 169 gg) (false :: gg) (iY j y zs r i) (iC j y zs r i)=some (e,T,H)):V.Ends Tryz.prog false 0 0 (lb 169 gg) (iY j y zs r i) (iC j y zs r i) e T H:=
 bw PR aK mixed Tq h
def uP (j:List Int) (y:Int) (zs:List Int) (r i:Int):Prop:=aI j∧aI zs∧zs.length=j.length∧j.length≤17592186044416∧bS y=true∧0 < y∧r=0∧i=(j.length:Int) - 1
def yw (j:List Int) (y:Int) (zs:List Int) (r i:Int) (q:List Int×Int×Int):Prop:=aI q.1∧q.1.length=j.length∧vL q.1=vL j / y.toNat∧q.2.1=((vL j % y.toNat:Nat):Int)
theorem abD (j:List Int) (y:Nat) (a5:aI j) (b0:j.length≤17592186044416) (a0:0 < y) (bD:y < 4294967296) (d:Nat):∀ (r:Nat) (out:List Int),d≤j.length→aI out→out.length=j.length→r < y→dE (vL (out.drop d)*y+r=vL (j.drop d))→
  ∃ q:List Int×Int×Int,aw Tryz.prog (lb 169 gg) (iY j y out r ((d:Int) - 1)) (iC j y out r ((d:Int) - 1)) (.exit 0) (iY j y q.1 q.2.1 q.2.2) (iC j y q.1 q.2.1 q.2.2)∧aI q.1∧q.1.length=j.length∧vL q.1=vL j / y∧q.2.1=((vL j % y:Nat):Int):=by
 induction d with
 | zero=>
  intro r out a3 M J N G
  refine ⟨(out,(r:Int),((0:Nat):Int) - 1), .last (Oz ?_) (by intro h;cases h),M,J, ?_, ?_⟩
  ·rw [Nr];rfl
  ·have G:=G.out
   rw [List.drop_zero,List.drop_zero] at G
   show vL out=_
   rw [← G,Nat.mul_comm,Nat.mul_add_div a0,Nat.div_eq_of_lt N];simp
  ·have G:=G.out
   rw [List.drop_zero,List.drop_zero] at G
   show (r:Int)=_
   rw [← G,Nat.mul_comm,Nat.mul_add_mod,Nat.mod_eq_of_lt N]
 | succ d a1=>
  intro r out a3 M J N O
  have U:d < j.length:=by omega
  have Z:d < out.length:=by omega
  obtain ⟨a,a2,a4,bx⟩:=cu a5 d U
  have a7:(r*4294967296+a) / y < 4294967296:=by
   rw [Nat.div_lt_iff_lt_mul (by omega)]
   have:(r+1)*4294967296≤y*4294967296:=Nat.mul_le_mul_right _ (by omega)
   omega
  have a6:(r*4294967296+a) % y < y:=Nat.mod_lt _ a0
  obtain ⟨q,I,S⟩:=a1 ((r*4294967296+a) % y) (out.set d (((r*4294967296+a) / y:Nat):Int)) (by omega) (fg M _ _ (Int.natCast_nonneg _) (Int.ofNat_lt.2 a7)) (by rw [List.length_set];exact J) a6 (by
   constructor
   rw [List.drop_eq_getElem_cons (l:=out.set d _) (by simpa using Z),List.getElem_set_self,List.drop_set_of_lt (by omega),List.drop_eq_getElem_cons U,a4,bU,bU,Int.toNat_natCast,Int.toNat_natCast,← O.out]
   have I:=Nat.div_add_mod (r*4294967296+a) y
   generalize (r*4294967296+a) / y=q at*
   generalize (r*4294967296+a) % y=m at*
   grind)
  refine ⟨q, .more (Oz ?_) I,S⟩
  clear I S a1 O
  have ab:=Nr j y out r (d:Int)
  rw [Int.toNat_natCast,bx,e9 a2,e9 bD,e9 (show r < 4294967296 by omega),Nat.zero_add,Nat.mul_one,dT (show (0:Int)≤(d:Int) by omega),dT (show (d:Int) < (j.length:Int) by omega),dT (show (d:Int) < (out.length:Int) by omega),dT Z,dT (show (r:Int) < y by omega),aO (show -9223372036854775808≤(d:Int) - 1∧(d:Int) - 1≤9223372036854775807 by omega)] at ab
  rw [show ((d+1:Nat):Int) - 1=(d:Int) by omega,ab]
  unfold iY iC
  rw [List.length_set]
  rfl
theorem Yk (j:List Int) (y:Int) (zs:List Int) (r i:Int) (h:uP j y zs r i):∃ q:List Int×Int×Int,aw Tryz.prog (lb 169 gg) (iY j y zs r i) (iC j y zs r i) (.exit 0) (iY j y q.1 q.2.1 q.2.2) (iC j y q.1 q.2.1 q.2.2)∧yw j y zs r i q:=by
 obtain ⟨G,I,J,M,N,S,rfl,rfl⟩:=h
 obtain ⟨y,O,rfl⟩:=jF N
 unfold yw
 rw [Int.toNat_natCast]
 exact abD j y G M (by omega) O j.length 0 zs (Nat.le_refl _) I J (by omega) ⟨by rw [List.drop_of_length_le (by omega),List.drop_of_length_le (Nat.le_refl _)];simp [cp]⟩
def GB (M:List Int→Int→List Int→Int→Int→Bool) (I:List Int→Int→List Int→Int→Int→List Int×Int×Int) (T:List AV) (H:Hp):Option (Bool×Ex×List AV×Hp):=
 match al T 0,al T 1,al T 6,al T 7,al T 8,H with
 | .lst false 129 G j, .val (.int .u32 y), .sl false 129 0 0 J, .val (.int .u32 r), .val (.int .i64 i), [.row (.ints .u32 zs) 129 .live]=>bif T.length==35 then some (okB G j&&decide (J=zs.length)&&M (rowOf G j) y zs r i, .exit 0,iY (rowOf G j) y ((I (rowOf G j) y zs r i).1) ((I (rowOf G j) y zs r i).2.1) ((I (rowOf G j) y zs r i).2.2),iC (rowOf G j) y ((I (rowOf G j) y zs r i).1) ((I (rowOf G j) y zs r i).2.1) ((I (rowOf G j) y zs r i).2.2)) else none
 | _,_,_,_,_,_=>none
abbrev AJ:Type:=List Int→Int→List Int→Int→Int→Bool
abbrev Aq:Type:=List Int→Int→List Int→Int→Int→List Int×Int×Int
def I9 (j:AJ) (G:Aq) (L:aE):aE:=bp 0 169 gg [0,1,6,7,8] (GB j G) L
def jV (j:List Int) (y:Int) (zs:List Int) (r:Int) (i:Int):List Int×Int×Int:=Classical.epsilon fun ρ=>aw Tryz.prog (lb 169 gg) (iY j y zs r i) (iC j y zs r i) (.exit 0) (iY j y (ρ.1) (ρ.2.1) (ρ.2.2)) (iC j y (ρ.1) (ρ.2.1) (ρ.2.2))∧yw j y zs r i ρ
theorem MJ (j:List Int) (y:Int) (zs:List Int) (r:Int) (i:Int) (h:uP j y zs r i):aw Tryz.prog (lb 169 gg) (iY j y zs r i) (iC j y zs r i) (.exit 0) (iY j y ((jV j y zs r i).1) ((jV j y zs r i).2.1) ((jV j y zs r i).2.2)) (iC j y ((jV j y zs r i).1) ((jV j y zs r i).2.1) ((jV j y zs r i).2.2))∧yw j y zs r i (jV j y zs r i):=Classical.epsilon_spec (Yk j y zs r i h)
def sR (j:List Int) (y:Int) (zs:List Int) (r:Int) (i:Int):Bool:= @decide (uP j y zs r i) (Classical.propDecidable _)
theorem Up (j:List Int) (y:Int) (zs:List Int) (r:Int) (i:Int) (h:uP j y zs r i):sR j y zs r i=true:= @decide_eq_true _ (Classical.propDecidable _) h
theorem adP (T:List AV) (H:Hp) (e:Ex) (I:List AV) (G:Hp) (h:GB sR jV T H=some (true,e,I,G)):V.Ends Tryz.prog false 0 0 (.loop (lb 169 gg)) T H e I G:=by
 unfold GB at h
 split at h
 ·rename_i a4 N y a5 r i zs O S U Z ab
  rw [Bool.cond_eq_ite] at h
  split at h
  ·rename_i J
   rw [beq_iff_eq] at J
   simp only [Option.some.injEq,Prod.mk.injEq,Bool.and_eq_true,decide_eq_true_eq] at h
   obtain ⟨⟨⟨k1,a1⟩,a2⟩,rfl,rfl,rfl⟩:=h
   have a3:= @of_decide_eq_true _ (Classical.propDecidable _) a2
   refine Ends.pre (MJ (rowOf a4 N) y zs r i a3).1.ends (fun α B w D a6 a0=>bm J (fun p M y j=> ?_) a0)
   simp only [List.mem_cons,List.not_mem_nil,or_false] at M
   rcases M with rfl | rfl | rfl | rfl | rfl
   ·rw [O] at j;rw [cc];exact cn bZ k1 j
   ·rw [S] at j;exact j
   ·rw [U] at j;rw [← a1];exact j
   ·rw [Z] at j;exact j
   ·rw [ab] at j;exact j
  ·cases h
 ·cases h
theorem QE {L:aE} (h:aB Tryz.prog L):aB Tryz.prog (I9 sR jV L):=h.br RO adP
def Hz (j:Sg) (G:AJ) (I:Aq):Env:= ⟨CT j,ar,I9 G I aq⟩
theorem abC (I:Sg) (M:AJ) (N:Aq) (j:List Int) (y:Int):letI J:=(List.replicate (↑j.length:Int).toNat (0:Int));letI G:=(N (rowOf j.length (ai j)) y J (0:Int) ((↑j.length:Int) - (1:Int)));
  (aD Tryz.prog (Hz I M N) 10 10 169 [.lst false 129 j.length (ai j), .val (.int .u32 y)]=(bif decide ((↑j.length:Int)≤(↑j.length:Int))&&decide ((4:Int)*(↑j.length:Int)≤(281474976710656:Int))&&decide ((↑j.length:Int)≤(9223372036854775807:Int)) then (bif aj IntKind.i64 ((↑j.length:Int) - (1:Int)) then (bif okB j.length (ai j)&&decide ((↑j.length:Int).toNat=J.length)&&M (rowOf j.length (ai j)) y J (0:Int) ((↑j.length:Int) - (1:Int)) then (bif decide ((0:Nat)+G.fst.length*(1:Nat)≤G.fst.length) then (bif I.bL G.fst.length (ai G.fst) then some (.tup [(.lst false 129 (I.len (I.num G.fst.length (ai G.fst))) (I.row (I.num G.fst.length (ai G.fst)))),(.val (.int .u32 (G.snd.fst)))]) else none) else none) else none) else none) else none)):=by kernel_rfl
def FL (j:Sg) (args:List AV):Option (Bool×AV):=match args with | [.lst _ 129 m f, .val (.int .u32 y)]=>some (j.bL m f&&bS y&&decide (0 < y), .tup [j.fF (j.num m f / y.toNat), .val (.int .u32 ((j.num m f % y.toNat:Nat):Int))]) | _=>none
theorem V5:Entry Tryz.prog 169 (FL aa):=by
 refine im (E:=Hz aa sR jV) (u:=10) (d:=10) rZ (QE aB.none).ok (by kernel_rfl) (fun args r h=> ?_)
 unfold FL at h
 split at h
 ·rename_i fl m f y
  simp only [Option.some.injEq,Prod.mk.injEq,Bool.and_eq_true,decide_eq_true_eq] at h
  obtain ⟨⟨⟨ab,a0⟩,a1⟩,rfl⟩:=h
  obtain ⟨M,I,N,O⟩:=LU ab
  have J:uP (rowOf m f) y (List.replicate (rowOf m f).length 0) 0 ((rowOf m f).length - 1):= ⟨I,kM _,by simp,N,a0,a1,rfl,rfl⟩
  obtain ⟨_,S,a4,U,Z⟩:=MJ _ _ _ _ _ J
  have j:=abC aa sR jV (rowOf m f) y
  simp only [jZ,Nat.mul_one,Nat.zero_add,Int.toNat_natCast,List.length_replicate,eq_self,decide_true] at j
  rw [Up _ _ _ _ _ J] at j
  generalize jV (rowOf m f) y (List.replicate (rowOf m f).length 0) 0 ((rowOf m f).length - 1)=q at*
  rw [iH I,dT (show ((rowOf m f).length:Int)≤((rowOf m f).length:Int) by omega),dT (show (4:Int)*((rowOf m f).length:Int)≤281474976710656 by omega),dT (show ((rowOf m f).length:Int)≤9223372036854775807 by omega),aO (show -9223372036854775808≤((rowOf m f).length:Int) - 1∧((rowOf m f).length:Int) - 1≤9223372036854775807 by omega),dT (show q.1.length≤q.1.length by omega),lI S (by omega),lC,U,Z] at j
  refine ⟨_,_,j,fun B w a5 G=> ?_,fun B w y G=>by rw [O];exact G⟩
  obtain ⟨y,zs,rfl,a2,a3⟩:=G
  exact ⟨y,_,rfl,kL M a2,a3⟩
 ·cases h
end
end Go.Proofs.YtamcpiicmfielaaGreat.L
namespace Go.Proofs.YtamcpiicmfielaaGreat.L
open Go Go.V Go.RowKit Go.Proofs.YtamcpiicmfielaaGreat.Sp Go.Proofs.YtamcpiicmfielaaGreat.F Go.Proofs.YtamcpiicmfielaaGreatW.PrintWords
open Go.Proofs (Tryz.prog)
noncomputable section
theorem NQ (a n:Nat) (j:a < 4294967296) (G:n < 32):IntKind.u64.wrap ((a:Int)*2 ^ min ((n:Int).toNat) 64)=((a*2 ^ n:Nat):Int):=by
 have h:=(ED a n j G).1
 unfold shl at h
 rw [eF (by omega)] at h
 exact h
theorem LY (c a n:Nat) (j:c < 2 ^ n) (G:n < 32):bV .or .u32 (c:Int) (((a*2 ^ n % 4294967296:Nat)):Int)=((c+a*2 ^ n % 4294967296:Nat):Int):=(EC c a n j G).1
abbrev gb:List Bool:= [false,true,false,true,true]
def iW (k:Int) (zs:List Int) (j:List Int) (n:Int) (i:Int):List AV:=av 41 [(1, .val (.int .i64 k)),(5, .sl false 129 0 0 zs.length),(13, .lst false 129 j.length (ai j)),(14, .val (.int .i64 n)),(15, .val (.int .i64 i))]
def iA (k:Int) (zs:List Int) (j:List Int) (n:Int) (i:Int):Hp:= [.row (.ints .u32 zs) 129 .live]
theorem RM:aJ Tryz.prog 171 gb=some (.loop (lb 171 gb)):=by kernel_rfl
theorem Tn:aJ Tryz.prog 171 (false :: gb)=some (lb 171 gb):=by kernel_rfl
theorem Np (k:Int) (zs:List Int) (j:List Int) (n:Int) (i:Int):letI G:=(zs.set ((0:Nat)+i.toNat*(1:Nat)) (bV BinOp.or IntKind.u32 (zs.getD ((0:Nat)+i.toNat*(1:Nat)) (0:Int)) (IntKind.u32.wrap (IntKind.u64.wrap (j.getD i.toNat (0:Int)*(2:Int) ^ min k.toNat (64:Nat))))));
  (aN Tryz.prog bj 171 [1,5,13,14,15] (lb 171 gb) (false :: gb) (iW k zs j n i) (iA k zs j n i)=(bif decide (i < n) then (bif decide ((0:Int)≤i)&&decide (i < (↑j.length:Int)) then (bif aj IntKind.u64 (j.getD i.toNat (0:Int)) then (bif decide (k < (0:Int)) then none else (bif decide ((0:Int)≤i)&&decide (i < (↑zs.length:Int)) then (bif decide ((0:Nat)+i.toNat*(1:Nat) < zs.length) then (bif decide ((0:Int)≤i)&&decide (i < (↑zs.length:Int)) then (bif decide ((0:Nat)+i.toNat*(1:Nat) < zs.length) then (bif aj IntKind.i64 (i+(1:Int)) then (bif decide ((0:Int)≤i+(1:Int))&&decide (i+(1:Int) < (↑zs.length:Int)) then (bif decide ((0:Nat)+(i+(1:Int)).toNat*(1:Nat) < G.length) then (bif aj IntKind.i64 (i+(1:Int)) then some (.normal,av 41 [(1,(.val (.int .i64 k))),(5,(.sl false 129 0 0 zs.length)),(13,(.lst false 129 j.length (ai j))),(14,(.val (.int .i64 n))),(15,(.val (.int .i64 (i+(1:Int)))))], [(.row (.ints .u32 (G.set ((0:Nat)+(i+(1:Int)).toNat*(1:Nat)) (IntKind.u32.wrap ((IntKind.u64.wrap (j.getD i.toNat (0:Int)*(2:Int) ^ min k.toNat (64:Nat))).fdiv (4294967296:Int))))) 129 .live)]) else none) else none) else none) else none) else none) else none) else none) else none)) else none) else none) else some ((.exit 0),av 41 [(1,(.val (.int .i64 k))),(5,(.sl false 129 0 0 zs.length)),(13,(.lst false 129 j.length (ai j))),(14,(.val (.int .i64 n))),(15,(.val (.int .i64 i)))], [(.row (.ints .u32 zs) 129 .live)]))):=by kernel_rfl
theorem Ox {k:Int} {zs:List Int} {j:List Int} {n:Int} {i:Int} {e:Ex} {T:List AV} {H:Hp} (h:aN Tryz.prog bj 171 [1,5,13,14,15] (lb 171 gb) (false :: gb) (iW k zs j n i) (iA k zs j n i)=some (e,T,H)):V.Ends Tryz.prog false 0 0 (lb 171 gb) (iW k zs j n i) (iA k zs j n i) e T H:=
 bw (aH _) aK mixed Tn h
def uN (k:Int) (zs j:List Int) (n i:Int):Prop:=aI j∧aI zs∧zs=List.replicate (j.length+1) 0∧j.length≤17592186044415∧n=j.length∧i=0∧∃ a:Nat,k=a∧a < 32
def yu (k:Int) (zs j:List Int) (n i:Int) (q:List Int×Int):Prop:=aI q.1∧q.1.length=j.length+1∧vL q.1=2 ^ k.toNat*vL j
theorem abA (k:Nat) (j:List Int) (b2:aI j) (c1:j.length≤17592186044415) (M:k < 32) (d:Nat):∀ (i c:Nat) (out:List Int),i+d=j.length→aI out→out.length=j.length+1→(∃ h:i < out.length,out[i]=(c:Int))→c < 2 ^ k→
  dE (vL (out.take i)+4294967296 ^ i*c=2 ^ k*vL (j.take i))→
  ∃ q:List Int×Int,aw Tryz.prog (lb 171 gb) (iW k out j j.length i) (iA k out j j.length i) (.exit 0) (iW k q.1 j j.length q.2) (iA k q.1 j j.length q.2)∧aI q.1∧q.1.length=j.length+1∧vL q.1=2 ^ k*vL j:=by
 induction d with
 | zero=>
  intro i c out b1 U S G O ab
  obtain ⟨J,G⟩:=G
  have c2:i=j.length:=by omega
  refine ⟨(out,(i:Int)), .last (Ox ?_) (by intro h;cases h),U,S, ?_⟩
  ·rw [Np,dF (show ¬ ((i:Int) < j.length) by omega)]
   rfl
  ·have I:=kD out i J
   rw [List.take_of_length_le (by omega),G,Int.toNat_natCast,ab.out,List.take_of_length_le (by omega)] at I
   exact I
 | succ d a6=>
  intro i c out b1 U S G O a0
  obtain ⟨J,G⟩:=G
  have a4:i < j.length:=by omega
  have a3:i+1 < out.length:=by omega
  obtain ⟨a,a2,b0,b5⟩:=cu b2 i a4
  have b6:out.getD i 0=(c:Int):=by rw [List.getD_eq_getElem?_getD,List.getElem?_eq_getElem J,Option.getD_some,G]
  have N:=dE.mk (kD j i a4)
  rw [b0,Int.toNat_natCast] at N
  have a5:=NQ a k a2 M
  have b7:=(ED a k a2 M).2
  have b4:=LY c a k O M
  have b3:=(EC c a k O M).2
  have bD:a*2 ^ k / 4294967296 < 2 ^ k:=by
   rw [Nat.div_lt_iff_lt_mul (by decide),Nat.mul_comm (2 ^ k)];exact b7
  have ct:(2:Nat) ^ k≤2 ^ 31:=Nat.pow_le_pow_right (by decide) (by omega)
  have c0:(2:Nat) ^ 31=2147483648:=rfl
  obtain ⟨q,I,a1⟩:=a6 (i+1) (a*2 ^ k / 4294967296) ((out.set i ((c+a*2 ^ k % 4294967296:Nat):Int)).set (i+1) ((a*2 ^ k / 4294967296:Nat):Int)) (by omega)
   (fg (fg U _ _ (Int.natCast_nonneg _) (Int.ofNat_lt.2 b3)) _ _ (Int.natCast_nonneg _) (by generalize a*2 ^ k / 4294967296=z at *;omega)) (by simp [S]) ⟨by rw [List.length_set,List.length_set];exact a3,List.getElem_set_self _⟩ bD (by
   constructor
   rw [List.take_set_of_le (Nat.le_refl _),zz _ _ J,rQ,List.length_take,Nat.min_eq_left (by omega),N.out,Int.toNat_natCast,Nat.pow_succ]
   have ab:=a0.out
   have bx:4294967296 ^ i*(a*2 ^ k % 4294967296)+4294967296 ^ i*4294967296*(a*2 ^ k / 4294967296)=4294967296 ^ i*(a*2 ^ k):=by
    rw [Nat.mul_assoc,← Nat.mul_add,Nat.mod_add_div]
   rw [Nat.mul_add,← Nat.add_assoc,ab,Nat.add_assoc,bx]
   grind)
  refine ⟨q, .more (Ox ?_) I,a1⟩
  clear I a1 a6 a0 N
  have Z:=Np k out j j.length i
  have a7:(i:Int)+1=((i+1:Nat):Int):=by omega
  generalize b8:a*2 ^ k / 4294967296=z at*
  have ch:z % 4294967296=z:=Nat.mod_eq_of_lt (by omega)
  simp only [a7,Int.toNat_natCast,Nat.zero_add,Nat.mul_one] at Z
  simp only [Int.toNat_natCast] at a5
  rw [b5,b6,a5,dm,b4,ji,b8,dm,ch,List.length_set,cT (show 0≤(a:Int)∧(a:Int)≤18446744073709551615 by omega),bz _ (by omega),dT (show (i:Int) < (j.length:Int) by omega),dT (show (0:Int)≤(i:Int) by omega),dT (show (i:Int) < (out.length:Int) by omega),dT J,dF (show ¬ (k:Int) < 0 by omega),dT (show (0:Int)≤((i+1:Nat):Int) by omega),dT (show ((i+1:Nat):Int) < (out.length:Int) by omega),dT a3] at Z
  rw [Z]
  unfold iW iA
  rw [List.length_set,List.length_set]
  rfl
theorem Yi (k:Int) (zs j:List Int) (n i:Int) (h:uN k zs j n i):∃ q:List Int×Int,aw Tryz.prog (lb 171 gb) (iW k zs j n i) (iA k zs j n i) (.exit 0) (iW k q.1 j n q.2) (iA k q.1 j n q.2)∧yu k zs j n i q:=by
 obtain ⟨G,M,rfl,I,rfl,rfl,a,rfl,J⟩:=h
 unfold yu
 rw [Int.toNat_natCast]
 exact abA a j G I J j.length 0 0 _ (by omega) (kM _) (by simp) ⟨by simp,by simp⟩ (Nat.two_pow_pos a) ⟨by simp [cp]⟩
def Gz (M:Int→List Int→List Int→Int→Int→Bool) (I:Int→List Int→List Int→Int→Int→List Int×Int) (T:List AV) (H:Hp):Option (Bool×Ex×List AV×Hp):=
 match al T 1,al T 5,al T 13,al T 14,al T 15,H with
 | .val (.int .i64 k), .sl false 129 0 0 J, .lst false 129 G j, .val (.int .i64 n), .val (.int .i64 i), [.row (.ints .u32 zs) 129 .live]=>bif T.length==41 then some (okB G j&&decide (J=zs.length)&&M k zs (rowOf G j) n i, .exit 0,iW k ((I k zs (rowOf G j) n i).1) (rowOf G j) n ((I k zs (rowOf G j) n i).2),iA k ((I k zs (rowOf G j) n i).1) (rowOf G j) n ((I k zs (rowOf G j) n i).2)) else none
 | _,_,_,_,_,_=>none
abbrev AH:Type:=Int→List Int→List Int→Int→Int→Bool
abbrev Ao:Type:=Int→List Int→List Int→Int→Int→List Int×Int
def I7 (j:AH) (G:Ao) (L:aE):aE:=bp 0 171 gb [1,5,13,14,15] (Gz j G) L
def mK (k:Int) (zs:List Int) (j:List Int) (n:Int) (i:Int):List Int×Int:=Classical.epsilon fun ρ=>aw Tryz.prog (lb 171 gb) (iW k zs j n i) (iA k zs j n i) (.exit 0) (iW k (ρ.1) j n (ρ.2)) (iA k (ρ.1) j n (ρ.2))∧yu k zs j n i ρ
theorem MH (k:Int) (zs:List Int) (j:List Int) (n:Int) (i:Int) (h:uN k zs j n i):aw Tryz.prog (lb 171 gb) (iW k zs j n i) (iA k zs j n i) (.exit 0) (iW k ((mK k zs j n i).1) j n ((mK k zs j n i).2)) (iA k ((mK k zs j n i).1) j n ((mK k zs j n i).2))∧yu k zs j n i (mK k zs j n i):=Classical.epsilon_spec (Yi k zs j n i h)
def xl (k:Int) (zs:List Int) (j:List Int) (n:Int) (i:Int):Bool:= @decide (uN k zs j n i) (Classical.propDecidable _)
theorem Un (k:Int) (zs:List Int) (j:List Int) (n:Int) (i:Int) (h:uN k zs j n i):xl k zs j n i=true:= @decide_eq_true _ (Classical.propDecidable _) h
theorem adN (T:List AV) (H:Hp) (e:Ex) (I:List AV) (G:Hp) (h:Gz xl mK T H=some (true,e,I,G)):V.Ends Tryz.prog false 0 0 (.loop (lb 171 gb)) T H e I G:=by
 unfold Gz at h
 split at h
 ·rename_i k a5 a4 N n i zs O ab S U Z
  rw [Bool.cond_eq_ite] at h
  split at h
  ·rename_i J
   rw [beq_iff_eq] at J
   simp only [Option.some.injEq,Prod.mk.injEq,Bool.and_eq_true,decide_eq_true_eq] at h
   obtain ⟨⟨⟨k1,a1⟩,a2⟩,rfl,rfl,rfl⟩:=h
   have a3:= @of_decide_eq_true _ (Classical.propDecidable _) a2
   refine Ends.pre (MH k zs (rowOf a4 N) n i a3).1.ends (fun α B w D a6 a0=>bm J (fun p M y j=> ?_) a0)
   simp only [List.mem_cons,List.not_mem_nil,or_false] at M
   rcases M with rfl | rfl | rfl | rfl | rfl
   ·rw [O] at j;exact j
   ·rw [ab] at j;rw [← a1];exact j
   ·rw [S] at j;rw [cc];exact cn bZ k1 j
   ·rw [U] at j;exact j
   ·rw [Z] at j;exact j
  ·cases h
 ·cases h
theorem QC {L:aE} (h:aB Tryz.prog L):aB Tryz.prog (I7 xl mK L):=h.br RM adN
abbrev gd:List Bool:= [false,true,false,true,true]
def iX (k:Int) (zs:List Int) (j:List Int) (n:Int) (i:Int) (G:List Int):List AV:=av 41 [(1, .val (.int .i64 k)),(5, .sl false 129 1 0 zs.length),(13, .lst false 129 j.length (ai j)),(14, .val (.int .i64 n)),(15, .val (.int .i64 i))]
def iB (k:Int) (zs:List Int) (G:List Int) (n:Int) (i:Int) (j:List Int):Hp:= [.row (.ints .u32 j) 129 .live, .row (.ints .u32 zs) 129 .live]
theorem RN:aJ Tryz.prog 171 gd=some (.loop (lb 171 gd)):=by kernel_rfl
theorem Tp:aJ Tryz.prog 171 (false :: gd)=some (lb 171 gd):=by kernel_rfl
theorem Nq (k:Int) (zs:List Int) (j:List Int) (n:Int) (i:Int) (G:List Int):letI I:=(zs.set ((0:Nat)+i.toNat*(1:Nat)) (bV BinOp.or IntKind.u32 (zs.getD ((0:Nat)+i.toNat*(1:Nat)) (0:Int)) (IntKind.u32.wrap (IntKind.u64.wrap (j.getD i.toNat (0:Int)*(2:Int) ^ min k.toNat (64:Nat))))));
  (iN Tryz.prog bj 1 171 [1,5,13,14,15] (lb 171 gd) (false :: gd) (iX k zs j n i G) (iB k zs j n i G)=(bif decide (i < n) then (bif decide ((0:Int)≤i)&&decide (i < (↑j.length:Int)) then (bif aj IntKind.u64 (j.getD i.toNat (0:Int)) then (bif decide (k < (0:Int)) then none else (bif decide ((0:Int)≤i)&&decide (i < (↑zs.length:Int)) then (bif decide ((0:Nat)+i.toNat*(1:Nat) < zs.length) then (bif decide ((0:Int)≤i)&&decide (i < (↑zs.length:Int)) then (bif decide ((0:Nat)+i.toNat*(1:Nat) < zs.length) then (bif aj IntKind.i64 (i+(1:Int)) then (bif decide ((0:Int)≤i+(1:Int))&&decide (i+(1:Int) < (↑zs.length:Int)) then (bif decide ((0:Nat)+(i+(1:Int)).toNat*(1:Nat) < I.length) then (bif aj IntKind.i64 (i+(1:Int)) then some (.normal,av 41 [(1,(.val (.int .i64 k))),(5,(.sl false 129 1 0 zs.length)),(13,(.lst false 129 j.length (ai j))),(14,(.val (.int .i64 n))),(15,(.val (.int .i64 (i+(1:Int)))))], [(.row (.ints .u32 G) 129 .live),(.row (.ints .u32 (I.set ((0:Nat)+(i+(1:Int)).toNat*(1:Nat)) (IntKind.u32.wrap ((IntKind.u64.wrap (j.getD i.toNat (0:Int)*(2:Int) ^ min k.toNat (64:Nat))).fdiv (4294967296:Int))))) 129 .live)]) else none) else none) else none) else none) else none) else none) else none) else none)) else none) else none) else some ((.exit 0),av 41 [(1,(.val (.int .i64 k))),(5,(.sl false 129 1 0 zs.length)),(13,(.lst false 129 j.length (ai j))),(14,(.val (.int .i64 n))),(15,(.val (.int .i64 i)))], [(.row (.ints .u32 G) 129 .live),(.row (.ints .u32 zs) 129 .live)]))):=by kernel_rfl
theorem Oy {k:Int} {zs:List Int} {G:List Int} {n:Int} {i:Int} {j:List Int} {e:Ex} {T:List AV} {H:Hp} (h:iN Tryz.prog bj 1 171 [1,5,13,14,15] (lb 171 gd) (false :: gd) (iX k zs G n i j) (iB k zs G n i j)=some (e,T,H)):V.Ends Tryz.prog false 1 0 (lb 171 gd) (iX k zs G n i j) (iB k zs G n i j) e T H:=
 vd (aH _) aK mixed Tp h
def uO (k:Int) (zs j:List Int) (n i:Int) (G:List Int):Prop:=aI j∧aI zs∧zs=List.replicate (j.length+1) 0∧j.length≤17592186044415∧n=j.length∧i=0∧∃ a:Nat,k=a∧a < 32
def yv (k:Int) (zs j:List Int) (n i:Int) (G:List Int) (q:List Int×Int):Prop:=aI q.1∧q.1.length=j.length+1∧vL q.1=2 ^ k.toNat*vL j
theorem abB (k:Nat) (j:List Int) (b3:aI j) (c2:j.length≤17592186044415) (N:k < 32) (M:List Int) (d:Nat):∀ (i c:Nat) (out:List Int),i+d=j.length→aI out→out.length=j.length+1→(∃ h:i < out.length,out[i]=(c:Int))→c < 2 ^ k→
  dE (vL (out.take i)+4294967296 ^ i*c=2 ^ k*vL (j.take i))→
  ∃ q:List Int×Int,bQ Tryz.prog 1 (lb 171 gd) (iX k out j j.length i M) (iB k out j j.length i M) (.exit 0) (iX k q.1 j j.length q.2 M) (iB k q.1 j j.length q.2 M)∧aI q.1∧q.1.length=j.length+1∧vL q.1=2 ^ k*vL j:=by
 induction d with
 | zero=>
  intro i c out b2 Z U G S a0
  obtain ⟨J,G⟩:=G
  have c3:i=j.length:=by omega
  refine ⟨(out,(i:Int)), .last (Oy ?_) (by intro h;cases h),Z,U, ?_⟩
  ·rw [Nq,dF (show ¬ ((i:Int) < j.length) by omega)]
   rfl
  ·have I:=kD out i J
   rw [List.take_of_length_le (by omega),G,Int.toNat_natCast,a0.out,List.take_of_length_le (by omega)] at I
   exact I
 | succ d a7=>
  intro i c out b2 Z U G S a1
  obtain ⟨J,G⟩:=G
  have a5:i < j.length:=by omega
  have a4:i+1 < out.length:=by omega
  obtain ⟨a,a3,b1,b6⟩:=cu b3 i a5
  have b7:out.getD i 0=(c:Int):=by rw [List.getD_eq_getElem?_getD,List.getElem?_eq_getElem J,Option.getD_some,G]
  have O:=dE.mk (kD j i a5)
  rw [b1,Int.toNat_natCast] at O
  have a6:=NQ a k a3 N
  have b8:=(ED a k a3 N).2
  have b5:=LY c a k S N
  have b4:=(EC c a k S N).2
  have b0:a*2 ^ k / 4294967296 < 2 ^ k:=by
   rw [Nat.div_lt_iff_lt_mul (by decide),Nat.mul_comm (2 ^ k)];exact b8
  have c0:(2:Nat) ^ k≤2 ^ 31:=Nat.pow_le_pow_right (by decide) (by omega)
  have c1:(2:Nat) ^ 31=2147483648:=rfl
  obtain ⟨q,I,a2⟩:=a7 (i+1) (a*2 ^ k / 4294967296) ((out.set i ((c+a*2 ^ k % 4294967296:Nat):Int)).set (i+1) ((a*2 ^ k / 4294967296:Nat):Int)) (by omega)
   (fg (fg Z _ _ (Int.natCast_nonneg _) (Int.ofNat_lt.2 b4)) _ _ (Int.natCast_nonneg _) (by generalize a*2 ^ k / 4294967296=z at *;omega)) (by simp [U]) ⟨by rw [List.length_set,List.length_set];exact a4,List.getElem_set_self _⟩ b0 (by
   constructor
   rw [List.take_set_of_le (Nat.le_refl _),zz _ _ J,rQ,List.length_take,Nat.min_eq_left (by omega),O.out,Int.toNat_natCast,Nat.pow_succ]
   have a0:=a1.out
   have bD:4294967296 ^ i*(a*2 ^ k % 4294967296)+4294967296 ^ i*4294967296*(a*2 ^ k / 4294967296)=4294967296 ^ i*(a*2 ^ k):=by
    rw [Nat.mul_assoc,← Nat.mul_add,Nat.mod_add_div]
   rw [Nat.mul_add,← Nat.add_assoc,a0,Nat.add_assoc,bD]
   grind)
  refine ⟨q, .more (Oy ?_) I,a2⟩
  clear I a2 a7 a1 O
  have ab:=Nq k out j j.length i M
  have bx:(i:Int)+1=((i+1:Nat):Int):=by omega
  generalize ch:a*2 ^ k / 4294967296=z at*
  have ct:z % 4294967296=z:=Nat.mod_eq_of_lt (by omega)
  simp only [bx,Int.toNat_natCast,Nat.zero_add,Nat.mul_one] at ab
  simp only [Int.toNat_natCast] at a6
  rw [b6,b7,a6,dm,b5,ji,ch,dm,ct,List.length_set,cT (show 0≤(a:Int)∧(a:Int)≤18446744073709551615 by omega),bz _ (by omega),dT (show (i:Int) < (j.length:Int) by omega),dT (show (0:Int)≤(i:Int) by omega),dT (show (i:Int) < (out.length:Int) by omega),dT J,dF (show ¬ (k:Int) < 0 by omega),dT (show (0:Int)≤((i+1:Nat):Int) by omega),dT (show ((i+1:Nat):Int) < (out.length:Int) by omega),dT a4] at ab
  rw [ab]
  unfold iX iB
  rw [List.length_set,List.length_set]
  rfl
theorem Yj (k:Int) (zs j:List Int) (n i:Int) (G:List Int) (h:uO k zs j n i G):∃ q:List Int×Int,bQ Tryz.prog 1 (lb 171 gd) (iX k zs j n i G) (iB k zs j n i G) (.exit 0) (iX k q.1 j n q.2 G) (iB k q.1 j n q.2 G)∧yv k zs j n i G q:=by
 obtain ⟨I,N,rfl,J,rfl,rfl,a,rfl,M⟩:=h
 unfold yv
 rw [Int.toNat_natCast]
 exact abB a j I J M G j.length 0 0 _ (by omega) (kM _) (by simp) ⟨by simp,by simp⟩ (Nat.two_pow_pos a) ⟨by simp [cp]⟩
def GA (N:Int→List Int→List Int→Int→Int→List Int→Bool) (J:Int→List Int→List Int→Int→Int→List Int→List Int×Int) (T:List AV) (H:Hp):Option (Bool×Ex×List AV×Hp):=
 match al T 1,al T 5,al T 13,al T 14,al T 15,H with
 | .val (.int .i64 k), .sl false 129 1 0 M, .lst false 129 G j, .val (.int .i64 n), .val (.int .i64 i), [.row (.ints .u32 I) 129 .live, .row (.ints .u32 zs) 129 .live]=>bif T.length==41 then some (okB G j&&decide (M=zs.length)&&N k zs (rowOf G j) n i I, .exit 0,iX k ((J k zs (rowOf G j) n i I).1) (rowOf G j) n ((J k zs (rowOf G j) n i I).2) I,iB k ((J k zs (rowOf G j) n i I).1) (rowOf G j) n ((J k zs (rowOf G j) n i I).2) I) else none
 | _,_,_,_,_,_=>none
abbrev AI:Type:=Int→List Int→List Int→Int→Int→List Int→Bool
abbrev Ap:Type:=Int→List Int→List Int→Int→Int→List Int→List Int×Int
def I8 (j:AI) (G:Ap) (L:aE):aE:=bp 1 171 gd [1,5,13,14,15] (GA j G) L
def mL (k:Int) (zs:List Int) (G:List Int) (n:Int) (i:Int) (j:List Int):List Int×Int:=Classical.epsilon fun ρ=>bQ Tryz.prog 1 (lb 171 gd) (iX k zs G n i j) (iB k zs G n i j) (.exit 0) (iX k (ρ.1) G n (ρ.2) j) (iB k (ρ.1) G n (ρ.2) j)∧yv k zs G n i j ρ
theorem MI (k:Int) (zs:List Int) (G:List Int) (n:Int) (i:Int) (j:List Int) (h:uO k zs G n i j):bQ Tryz.prog 1 (lb 171 gd) (iX k zs G n i j) (iB k zs G n i j) (.exit 0) (iX k ((mL k zs G n i j).1) G n ((mL k zs G n i j).2) j) (iB k ((mL k zs G n i j).1) G n ((mL k zs G n i j).2) j)∧yv k zs G n i j (mL k zs G n i j):=Classical.epsilon_spec (Yj k zs G n i j h)
def xm (k:Int) (zs:List Int) (G:List Int) (n:Int) (i:Int) (j:List Int):Bool:= @decide (uO k zs G n i j) (Classical.propDecidable _)
theorem Uo (k:Int) (zs:List Int) (G:List Int) (n:Int) (i:Int) (j:List Int) (h:uO k zs G n i j):xm k zs G n i j=true:= @decide_eq_true _ (Classical.propDecidable _) h
theorem adO (T:List AV) (H:Hp) (e:Ex) (I:List AV) (G:Hp) (h:GA xm mL T H=some (true,e,I,G)):V.Ends Tryz.prog false 1 0 (.loop (lb 171 gd)) T H e I G:=by
 unfold GA at h
 split at h
 ·rename_i k a6 a4 N n i a5 zs O ab S U Z
  rw [Bool.cond_eq_ite] at h
  split at h
  ·rename_i J
   rw [beq_iff_eq] at J
   simp only [Option.some.injEq,Prod.mk.injEq,Bool.and_eq_true,decide_eq_true_eq] at h
   obtain ⟨⟨⟨k1,a1⟩,a2⟩,rfl,rfl,rfl⟩:=h
   have a3:= @of_decide_eq_true _ (Classical.propDecidable _) a2
   refine Ends.pre (MI k zs (rowOf a4 N) n i a5 a3).1.ends (fun α B w D a7 a0=>bm J (fun p M y j=> ?_) a0)
   simp only [List.mem_cons,List.not_mem_nil,or_false] at M
   rcases M with rfl | rfl | rfl | rfl | rfl
   ·rw [O] at j;exact j
   ·rw [ab] at j;rw [← a1];exact j
   ·rw [S] at j;rw [cc];exact cn bZ k1 j
   ·rw [U] at j;exact j
   ·rw [Z] at j;exact j
  ·cases h
 ·cases h
theorem QD {L:aE} (h:aB Tryz.prog L):aB Tryz.prog (I8 xm mL L):=h.br RN adO
abbrev gl:List Bool:= [false,true,false,true,true]
def gY (j:List Int) (k:Int) (zs:List Int) (n:Int) (i:Int):List AV:=av 45 [(0, .lst false 129 j.length (ai j)),(1, .val (.int .i64 k)),(5, .sl false 129 0 0 zs.length),(12, .val (.int .i64 n)),(13, .val (.int .i64 i))]
def gI (j:List Int) (k:Int) (zs:List Int) (n:Int) (i:Int):Hp:= [.row (.ints .u32 zs) 129 .live]
theorem RU:aJ Tryz.prog 158 gl=some (.loop (lb 158 gl)):=by kernel_rfl
theorem Tz:aJ Tryz.prog 158 (false :: gl)=some (lb 158 gl):=by kernel_rfl
theorem Nx (j:List Int) (k:Int) (zs:List Int) (n:Int) (i:Int):
  (aN Tryz.prog bj 158 [0,1,5,12,13] (lb 158 gl) (false :: gl) (gY j k zs n i) (gI j k zs n i)=(bif decide (i < n) then (bif decide ((0:Int)≤i)&&decide (i < (↑j.length:Int)) then (bif aj IntKind.u64 (j.getD i.toNat (0:Int)) then (bif aj IntKind.i64 (i+(1:Int)) then (bif decide (i+(1:Int) < (↑j.length:Int)) then (bif aj IntKind.i64 (i+(1:Int)) then (bif decide ((0:Int)≤i+(1:Int))&&decide (i+(1:Int) < (↑j.length:Int)) then (bif aj IntKind.u64 (j.getD (i+(1:Int)).toNat (0:Int)) then (bif decide (k < (0:Int)) then none else (bif decide ((0:Int)≤i)&&decide (i < (↑zs.length:Int)) then (bif decide ((0:Nat)+i.toNat*(1:Nat) < zs.length) then (bif aj IntKind.i64 (i+(1:Int)) then some (.normal,av 45 [(0,(.lst false 129 j.length (ai j))),(1,(.val (.int .i64 k))),(5,(.sl false 129 0 0 zs.length)),(12,(.val (.int .i64 n))),(13,(.val (.int .i64 (i+(1:Int)))))], [(.row (.ints .u32 (zs.set ((0:Nat)+i.toNat*(1:Nat)) (IntKind.u32.wrap ((bV BinOp.or IntKind.u64 (j.getD i.toNat (0:Int)) (IntKind.u64.wrap (j.getD (i+(1:Int)).toNat (0:Int)*(4294967296:Int)))).fdiv ((2:Int) ^ min k.toNat (64:Nat)))))) 129 .live)]) else none) else none) else none)) else none) else none) else none) else (bif decide (k < (0:Int)) then none else (bif decide ((0:Int)≤i)&&decide (i < (↑zs.length:Int)) then (bif decide ((0:Nat)+i.toNat*(1:Nat) < zs.length) then (bif aj IntKind.i64 (i+(1:Int)) then some (.normal,av 45 [(0,(.lst false 129 j.length (ai j))),(1,(.val (.int .i64 k))),(5,(.sl false 129 0 0 zs.length)),(12,(.val (.int .i64 n))),(13,(.val (.int .i64 (i+(1:Int)))))], [(.row (.ints .u32 (zs.set ((0:Nat)+i.toNat*(1:Nat)) (IntKind.u32.wrap ((j.getD i.toNat (0:Int)).fdiv ((2:Int) ^ min k.toNat (64:Nat)))))) 129 .live)]) else none) else none) else none))) else none) else none) else none) else some ((.exit 0),av 45 [(0,(.lst false 129 j.length (ai j))),(1,(.val (.int .i64 k))),(5,(.sl false 129 0 0 zs.length)),(12,(.val (.int .i64 n))),(13,(.val (.int .i64 i)))], [(.row (.ints .u32 zs) 129 .live)]))):=by kernel_rfl
theorem Ff {j:List Int} {k:Int} {zs:List Int} {n:Int} {i:Int} {e:Ex} {T:List AV} {H:Hp} (h:aN Tryz.prog bj 158 [0,1,5,12,13] (lb 158 gl) (false :: gl) (gY j k zs n i) (gI j k zs n i)=some (e,T,H)):V.Ends Tryz.prog false 0 0 (lb 158 gl) (gY j k zs n i) (gI j k zs n i) e T H:=
 bw (aH _) aK mixed Tz h
def uV (j:List Int) (k:Int) (zs:List Int) (n i:Int):Prop:=aI j∧aI zs∧zs.length=j.length∧j.length≤17592186044416∧n=j.length∧i=0∧∃ a:Nat,k=a∧a≤32
def yx (j:List Int) (k:Int) (zs:List Int) (n i:Int) (q:List Int×Int):Prop:=aI q.1∧q.1.length=j.length∧vL q.1=vL j / 2 ^ k.toNat
theorem abE (z k:Nat) (j:k≤32):((z:Nat):Int).fdiv (2 ^ min ((k:Int).toNat) 64)=((z / 2 ^ k:Nat):Int):=by
 rw [Int.toNat_natCast,Nat.min_eq_left (by omega),show ((2:Int) ^ k)=((2 ^ k:Nat):Int) by norm_cast]
 exact gA _ _
theorem Sn (a y:Nat) (j:a < 4294967296) (G:y < 4294967296):bV .or .u64 (a:Int) (IntKind.u64.wrap ((y:Int)*4294967296))=((a+y*4294967296:Nat):Int):=by
 have h:Go.bits .or .u64 ((a:Nat):Int) ((y*4294967296:Nat):Int)=((a+y*4294967296:Nat):Int):=by
  rw [u64_or_nat _ _ (by omega) (by omega),Nat.or_comm,nat_join 32 _ _ (by omega) (by omega),Nat.add_comm]
 rw [show (y:Int)*4294967296=((y*4294967296:Nat):Int) from rfl,eF (by omega)]
 exact h
theorem ad7 (j:List Int) (k:Nat) (M:aI j) (b7:j.length≤17592186044416) (a2:k≤32) (d:Nat):∀ (i:Nat) (out:List Int),i+d=j.length→aI out→out.length=j.length→dE (vL (out.take i)=vL j / 2 ^ k % 4294967296 ^ i)→
  ∃ q:List Int×Int,aw Tryz.prog (lb 158 gl) (gY j k out j.length i) (gI j k out j.length i) (.exit 0) (gY j k q.1 j.length q.2) (gI j k q.1 j.length q.2)∧aI q.1∧q.1.length=j.length∧vL q.1=vL j / 2 ^ k:=by
 induction d with
 | zero=>
  intro i out b3 O N S
  refine ⟨(out,(i:Int)), .last (Ff ?_) (by intro h;cases h),O,N, ?_⟩
  ·rw [Nx,dF (show ¬ ((i:Int) < j.length) by omega)]
   rfl
  ·have S:=S.out
   rw [List.take_of_length_le (by omega),Nat.mod_eq_of_lt] at S
   ·exact S
   ·refine Nat.lt_of_le_of_lt (Nat.div_le_self _ _) ?_
    have:=dD M
    rwa [show i=j.length by omega]
 | succ d U=>
  intro i out b3 O N ab
  have a5:i < j.length:=by omega
  have a6:i < out.length:=by omega
  obtain ⟨a,bD,b1,b4⟩:=cu M i a5
  have b0:j.drop i=(a:Int) :: j.drop (i+1):=by rw [List.drop_eq_getElem_cons a5,b1]
  have Z:∀ y a0:Nat,y < 4294967296→vL (j.drop (i+1))=y+4294967296*a0→
    vL ((out.set i (((a+y*4294967296) / 2 ^ k % 4294967296:Nat):Int)).take (i+1))=vL j / 2 ^ k % 4294967296 ^ (i+1):=by
   intro y a0 a4 b6
   rw [zz _ _ a6,rQ,List.length_take,Nat.min_eq_left (by omega),Int.toNat_natCast,ab.out,mod_pow_succ]
   rw [UE (vL j) i k a y a0 (by rw [UL M i (by omega),b0,bU,b6,Int.toNat_natCast]) a2]
  have G:=Nx j k out j.length i
  have bx:(i:Int)+1=((i+1:Nat):Int):=by omega
  simp only [bx,Int.toNat_natCast,Nat.zero_add,Nat.mul_one] at G
  have a3:=abE
  simp only [Int.toNat_natCast] at a3
  rw [b4,cT (show 0≤(a:Int)∧(a:Int)≤18446744073709551615 by omega),bz _ (by omega),dT (show (i:Int) < (j.length:Int) by omega),dT (show (0:Int)≤(i:Int) by omega),dF (show ¬ (k:Int) < 0 by omega),dT (show (i:Int) < (out.length:Int) by omega),dT a6] at G
  by_cases a7:i+1 < j.length
  ·obtain ⟨y,a4,b2,b5⟩:=cu M (i+1) a7
   have a1:vL (j.drop (i+1))=y+4294967296*vL (j.drop (i+2)):=by rw [List.drop_eq_getElem_cons a7,b2,bU,Int.toNat_natCast]
   obtain ⟨q,I,J⟩:=U (i+1) _ (by omega) (fg O i _ (ly ((a+y*4294967296) / 2 ^ k)).1 (ly _).2) (by rw [List.length_set];exact N) ⟨Z y _ a4 a1⟩
   refine ⟨q, .more (Ff ?_) I,J⟩
   clear I J U ab Z
   rw [dT (show ((i+1:Nat):Int) < (j.length:Int) by omega),b5,cT (show 0≤(y:Int)∧(y:Int)≤18446744073709551615 by omega),dT (show (0:Int)≤((i+1:Nat):Int) by omega),Sn a y bD a4,a3 _ _ a2,dm] at G
   rw [G]
   unfold gY gI
   rw [List.length_set]
   rfl
  ·have a1:vL (j.drop (i+1))=0+4294967296*0:=by rw [List.drop_of_length_le (by omega)];rfl
   obtain ⟨q,I,J⟩:=U (i+1) _ (by omega) (fg O i _ (ly ((a+0*4294967296) / 2 ^ k)).1 (ly _).2) (by rw [List.length_set];exact N) ⟨Z 0 _ (by omega) a1⟩
   refine ⟨q, .more (Ff ?_) I,J⟩
   clear I J U ab Z
   rw [dF (show ¬ ((i+1:Nat):Int) < (j.length:Int) by omega),a3 _ _ a2,dm] at G
   rw [G,Nat.zero_mul,Nat.add_zero]
   unfold gY gI
   rw [List.length_set]
   rfl
theorem Yq (j:List Int) (k:Int) (zs:List Int) (n i:Int) (h:uV j k zs n i):∃ q:List Int×Int,aw Tryz.prog (lb 158 gl) (gY j k zs n i) (gI j k zs n i) (.exit 0) (gY j k q.1 n q.2) (gI j k q.1 n q.2)∧yx j k zs n i q:=by
 obtain ⟨G,I,J,M,rfl,rfl,a,rfl,N⟩:=h
 unfold yx
 rw [Int.toNat_natCast]
 exact ad7 j a G M N j.length 0 zs (by omega) I J ⟨by rw [List.take_zero,cp,Nat.pow_zero,Nat.mod_one]⟩
def GI (M:List Int→Int→List Int→Int→Int→Bool) (I:List Int→Int→List Int→Int→Int→List Int×Int) (T:List AV) (H:Hp):Option (Bool×Ex×List AV×Hp):=
 match al T 0,al T 1,al T 5,al T 12,al T 13,H with
 | .lst false 129 G j, .val (.int .i64 k), .sl false 129 0 0 J, .val (.int .i64 n), .val (.int .i64 i), [.row (.ints .u32 zs) 129 .live]=>bif T.length==45 then some (okB G j&&decide (J=zs.length)&&M (rowOf G j) k zs n i, .exit 0,gY (rowOf G j) k ((I (rowOf G j) k zs n i).1) n ((I (rowOf G j) k zs n i).2),gI (rowOf G j) k ((I (rowOf G j) k zs n i).1) n ((I (rowOf G j) k zs n i).2)) else none
 | _,_,_,_,_,_=>none
abbrev AM:Type:=List Int→Int→List Int→Int→Int→Bool
abbrev At:Type:=List Int→Int→List Int→Int→Int→List Int×Int
def Jc (j:AM) (G:At) (L:aE):aE:=bp 0 158 gl [0,1,5,12,13] (GI j G) L
def lU (j:List Int) (k:Int) (zs:List Int) (n:Int) (i:Int):List Int×Int:=Classical.epsilon fun ρ=>aw Tryz.prog (lb 158 gl) (gY j k zs n i) (gI j k zs n i) (.exit 0) (gY j k (ρ.1) n (ρ.2)) (gI j k (ρ.1) n (ρ.2))∧yx j k zs n i ρ
theorem MP (j:List Int) (k:Int) (zs:List Int) (n:Int) (i:Int) (h:uV j k zs n i):aw Tryz.prog (lb 158 gl) (gY j k zs n i) (gI j k zs n i) (.exit 0) (gY j k ((lU j k zs n i).1) n ((lU j k zs n i).2)) (gI j k ((lU j k zs n i).1) n ((lU j k zs n i).2))∧yx j k zs n i (lU j k zs n i):=Classical.epsilon_spec (Yq j k zs n i h)
def sX (j:List Int) (k:Int) (zs:List Int) (n:Int) (i:Int):Bool:= @decide (uV j k zs n i) (Classical.propDecidable _)
theorem Uv (j:List Int) (k:Int) (zs:List Int) (n:Int) (i:Int) (h:uV j k zs n i):sX j k zs n i=true:= @decide_eq_true _ (Classical.propDecidable _) h
theorem adV (T:List AV) (H:Hp) (e:Ex) (I:List AV) (G:Hp) (h:GI sX lU T H=some (true,e,I,G)):V.Ends Tryz.prog false 0 0 (.loop (lb 158 gl)) T H e I G:=by
 unfold GI at h
 split at h
 ·rename_i a4 N k a5 n i zs O S ab U Z
  rw [Bool.cond_eq_ite] at h
  split at h
  ·rename_i J
   rw [beq_iff_eq] at J
   simp only [Option.some.injEq,Prod.mk.injEq,Bool.and_eq_true,decide_eq_true_eq] at h
   obtain ⟨⟨⟨k1,a1⟩,a2⟩,rfl,rfl,rfl⟩:=h
   have a3:= @of_decide_eq_true _ (Classical.propDecidable _) a2
   refine Ends.pre (MP (rowOf a4 N) k zs n i a3).1.ends (fun α B w D a6 a0=>bm J (fun p M y j=> ?_) a0)
   simp only [List.mem_cons,List.not_mem_nil,or_false] at M
   rcases M with rfl | rfl | rfl | rfl | rfl
   ·rw [O] at j;rw [cc];exact cn bZ k1 j
   ·rw [S] at j;exact j
   ·rw [ab] at j;rw [← a1];exact j
   ·rw [U] at j;exact j
   ·rw [Z] at j;exact j
  ·cases h
 ·cases h
theorem QK {L:aE} (h:aB Tryz.prog L):aB Tryz.prog (Jc sX lU L):=h.br RU adV
def HF (j:Sg) (G:AM) (I:At):Env:= ⟨CT j,ar,Jc G I aq⟩
theorem ad6 (I:Sg) (M:AM) (N:At) (j:List Int) (k:Int):letI J:=(List.replicate (↑j.length:Int).toNat (0:Int));letI G:=(N (rowOf j.length (ai j)) k J (↑j.length:Int) (0:Int));
  (aD Tryz.prog (HF I M N) 10 10 158 [.lst false 129 j.length (ai j), .val (.int .i64 k)]=(bif decide ((↑j.length:Int)≤(↑j.length:Int))&&decide ((4:Int)*(↑j.length:Int)≤(281474976710656:Int))&&decide ((↑j.length:Int)≤(9223372036854775807:Int)) then (bif okB j.length (ai j)&&decide ((↑j.length:Int).toNat=J.length)&&M (rowOf j.length (ai j)) k J (↑j.length:Int) (0:Int) then (bif decide ((0:Nat)+G.fst.length*(1:Nat)≤G.fst.length) then (bif I.bL G.fst.length (ai G.fst) then some (.lst false 129 (I.len (I.num G.fst.length (ai G.fst))) (I.row (I.num G.fst.length (ai G.fst)))) else none) else none) else none) else none)):=by kernel_rfl
def zx (j:Sg) (args:List AV):Option (Bool×AV):=match args with | [.lst _ 129 m f, .val (.int .i64 k)]=>some (j.bL m f&&decide (0≤k)&&decide (k≤32),j.fF (j.num m f / 2 ^ k.toNat)) | _=>none
theorem Kq:Entry Tryz.prog 158 (zx aa):=by
 refine im (E:=HF aa sX lU) (u:=10) (d:=10) rZ (QK aB.none).ok (by kernel_rfl) (fun args r h=> ?_)
 unfold zx at h
 split at h
 ·rename_i fl m f k
  simp only [Option.some.injEq,Prod.mk.injEq,Bool.and_eq_true,decide_eq_true_eq] at h
  obtain ⟨⟨⟨Z,a2⟩,a3⟩,rfl⟩:=h
  obtain ⟨M,I,N,O⟩:=LU Z
  have J:uV (rowOf m f) k (List.replicate (rowOf m f).length 0) (rowOf m f).length 0:= ⟨I,kM _,by simp,N,rfl,rfl,k.toNat,by omega,by omega⟩
  obtain ⟨_,S,a1,U⟩:=MP _ _ _ _ _ J
  have j:=ad6 aa sX lU (rowOf m f) k
  simp only [jZ,Nat.mul_one,Nat.zero_add,Int.toNat_natCast,List.length_replicate,eq_self,decide_true] at j
  rw [Uv _ _ _ _ _ J] at j
  generalize lU (rowOf m f) k (List.replicate (rowOf m f).length 0) (rowOf m f).length 0=q at*
  rw [iH I,dT (show ((rowOf m f).length:Int)≤((rowOf m f).length:Int) by omega),dT (show (4:Int)*((rowOf m f).length:Int)≤281474976710656 by omega),dT (show ((rowOf m f).length:Int)≤9223372036854775807 by omega),dT (show q.1.length≤q.1.length by omega),lI S (by omega),lC,U] at j
  refine ⟨_,_,j,fun B w a4 G=> ?_,fun B w y G=>by rw [O];exact G⟩
  obtain ⟨y,zs,rfl,ab,a0⟩:=G
  exact ⟨y,_,rfl,kL M ab,a0⟩
 ·cases h
end
end Go.Proofs.YtamcpiicmfielaaGreat.L
namespace Go.Proofs.YtamcpiicmfielaaGreat.L
open Go Go.V Go.RowKit Go.Proofs.YtamcpiicmfielaaGreat.Sp Go.Proofs.YtamcpiicmfielaaGreat.F Go.Proofs.YtamcpiicmfielaaGreatW.PrintWords
open Go.Proofs (Tryz.prog)
noncomputable section
def zX:Env:= ⟨an 175 Fp aF,ar,aq⟩
theorem PQ:bb Tryz.prog zX.C:=(aH _).add Vj
abbrev dV:List Bool:= [false,false,true,true,true,true]
def ew (j:List Int) (vs:List Int) (i:Int) (k:Int) (g:Int) (r:Int) (qs:List Int):List AV:=av 194 [(0, .sl false 129 0 0 j.length),(1, .lst false 129 vs.length (ai vs)),(2, .val (.int .i64 i)),(7, .val (.int .i64 k)),(9, .val (.int .u64 g)),(10, .val (.int .u64 r))]
def dL (j:List Int) (vs:List Int) (i:Int) (k:Int) (g:Int) (r:Int) (qs:List Int):Hp:= [.row (.ints .u32 j) 129 .live, .row (.ints .u32 qs) 129 .live]
theorem Rf:aJ Tryz.prog 172 dV=some (.loop (lb 172 dV)):=by kernel_rfl
theorem SR:aJ Tryz.prog 172 (false :: dV)=some (lb 172 dV):=by kernel_rfl
theorem aaM (j:List Int) (vs:List Int) (i:Int) (k:Int) (g:Int) (r:Int) (qs:List Int):letI G:=(IntKind.u64.wrap (r+vs.getD (k - (1:Int)).toNat (0:Int)));letI I:=(IntKind.u64.wrap (g - (1:Int)));letI J:Option (Ex×List AV×Hp):=(bif aj IntKind.i64 (k - (1:Int)) then (bif decide ((0:Int)≤k - (1:Int))&&decide (k - (1:Int) < (↑vs.length:Int)) then (bif aj IntKind.u64 (vs.getD (k - (1:Int)).toNat (0:Int)) then (bif decide ((0:Int) < G.fdiv (4294967296:Int)) then (bif decide (I.fdiv (4294967296:Int)=(0:Int)) then some ((.exit 0),av 194 [(0,(.sl false 129 0 0 j.length)),(1,(.lst false 129 vs.length (ai vs))),(2,(.val (.int .i64 i))),(7,(.val (.int .i64 k))),(9,(.val (.int .u64 I))),(10,(.val (.int .u64 G)))], [(.row (.ints .u32 j) 129 .live),(.row (.ints .u32 qs) 129 .live)]) else some (.normal,av 194 [(0,(.sl false 129 0 0 j.length)),(1,(.lst false 129 vs.length (ai vs))),(2,(.val (.int .i64 i))),(7,(.val (.int .i64 k))),(9,(.val (.int .u64 I))),(10,(.val (.int .u64 G)))], [(.row (.ints .u32 j) 129 .live),(.row (.ints .u32 qs) 129 .live)])) else some (.normal,av 194 [(0,(.sl false 129 0 0 j.length)),(1,(.lst false 129 vs.length (ai vs))),(2,(.val (.int .i64 i))),(7,(.val (.int .i64 k))),(9,(.val (.int .u64 I))),(10,(.val (.int .u64 G)))], [(.row (.ints .u32 j) 129 .live),(.row (.ints .u32 qs) 129 .live)])) else none) else none) else none);
  (iN Tryz.prog bj 2 172 [0,1,2,7,9,10] (lb 172 dV) (false :: dV) (ew j vs i k g r qs) (dL j vs i k g r qs)=(bif decide ((0:Int) < g.fdiv (4294967296:Int)) then J else (bif decide (r.fdiv (4294967296:Int)=(0:Int)) then (bif aj IntKind.i64 (k - (2:Int)) then (bif decide ((0:Int)≤k - (2:Int))&&decide (k - (2:Int) < (↑vs.length:Int)) then (bif aj IntKind.u64 (vs.getD (k - (2:Int)).toNat (0:Int)) then (bif aj IntKind.i64 (i+k) then (bif aj IntKind.i64 (i+k - (2:Int)) then (bif decide ((0:Int)≤i+k - (2:Int))&&decide (i+k - (2:Int) < (↑j.length:Int)) then (bif decide ((0:Nat)+(i+k - (2:Int)).toNat*(1:Nat) < j.length) then (bif aj IntKind.u64 (j.getD ((0:Nat)+(i+k - (2:Int)).toNat*(1:Nat)) (0:Int)) then (bif decide (bV BinOp.or IntKind.u64 (IntKind.u64.wrap (r*(4294967296:Int))) (j.getD ((0:Nat)+(i+k - (2:Int)).toNat*(1:Nat)) (0:Int)) < IntKind.u64.wrap (g*vs.getD (k - (2:Int)).toNat (0:Int))) then J else some ((.exit 0),av 194 [(0,(.sl false 129 0 0 j.length)),(1,(.lst false 129 vs.length (ai vs))),(2,(.val (.int .i64 i))),(7,(.val (.int .i64 k))),(9,(.val (.int .u64 g))),(10,(.val (.int .u64 r)))], [(.row (.ints .u32 j) 129 .live),(.row (.ints .u32 qs) 129 .live)])) else none) else none) else none) else none) else none) else none) else none) else none) else some ((.exit 0),av 194 [(0,(.sl false 129 0 0 j.length)),(1,(.lst false 129 vs.length (ai vs))),(2,(.val (.int .i64 i))),(7,(.val (.int .i64 k))),(9,(.val (.int .u64 g))),(10,(.val (.int .u64 r)))], [(.row (.ints .u32 j) 129 .live),(.row (.ints .u32 qs) 129 .live)])))):=by kernel_rfl
theorem vu {j:List Int} {vs:List Int} {i:Int} {k:Int} {g:Int} {r:Int} {qs:List Int} {e:Ex} {T:List AV} {H:Hp} (h:iN Tryz.prog bj 2 172 [0,1,2,7,9,10] (lb 172 dV) (false :: dV) (ew j vs i k g r qs) (dL j vs i k g r qs)=some (e,T,H)):V.Ends Tryz.prog false 2 0 (lb 172 dV) (ew j vs i k g r qs) (dL j vs i k g r qs) e T H:=
 vd (aH _) aK mixed SR h
def xq (j vs:List Int) (i:Nat):Nat:=vL j / (4294967296 ^ i*vL vs)
def ue (j vs:List Int) (i k g r:Int) (qs:List Int):Prop:=∃ G J M I:Nat,i=G∧k=vs.length∧aI j∧aI vs∧2≤vs.length∧G+vs.length < j.length∧j.length≤17592186044416∧vs.getD (vs.length - 1) 0=I∧2147483648≤I∧
 vL j < 4294967296 ^ (G+1)*vL vs∧j.getD (G+vs.length) 0=J∧j.getD (G+vs.length - 1) 0=M∧g=((J*4294967296+M) / I:Nat)∧r=((J*4294967296+M) % I:Nat)
def yp (G vs:List Int) (i k g r:Int) (qs:List Int) (ρ:Int×Int):Prop:=∃ j:Nat,ρ.1=j∧xq G vs i.toNat≤j∧j≤xq G vs i.toNat+1∧j < 4294967296
theorem WO (G vs:List Int) (qs:List Int) (i:Nat) (e1:i+vs.length < G.length) (e2:G.length≤17592186044416) (e6:2≤vs.length) (J j v2:Nat) (c6:J < 4294967296) (fc:j < 4294967296) (c7:1≤j) (fh:v2 < 4294967296)
  (ec:G.getD (i+vs.length - 2) 0=(J:Int)) (ed:vs.getD (vs.length - 1) 0=(j:Int)) (eh:vs.getD (vs.length - 2) 0=(v2:Int))
  (P X Y O:Nat) (ep:X < P) (et:Y < P) (fa:O < 18446744073709551616) (q:Nat) (e7:q < 4294967296) (ev:q*(Y+P*(j*4294967296+v2))≤X+P*(O*4294967296+J)) (ey:X+P*(O*4294967296+J) < (q+1)*(Y+P*(j*4294967296+v2))) (n:Nat):
  ∀ g r:Nat,g=n→g*j+r=O→q≤g→∃ ρ:Int×Int,bQ Tryz.prog 2 (lb 172 dV) (ew G vs i vs.length g r qs) (dL G vs i vs.length g r qs) (.exit 0) (ew G vs i vs.length ρ.1 ρ.2 qs) (dL G vs i vs.length ρ.1 ρ.2 qs)∧∃ N:Nat,ρ.1=N∧q≤N∧N≤q+1∧N < 4294967296:=by
 have eu:0 < Y+P*(j*4294967296+v2):=by
  have:P*1≤P*(j*4294967296+v2):=Nat.mul_le_mul_left P (by omega)
  omega
 have out:∀ g r:Nat,g < 4294967296→g*j+r=O→g*v2≤r*4294967296+J→g≤q+1:=by
  intro g r S M a3
  have a0:=WD (X:=X) et c7 S M a3
  rcases Nat.lt_or_ge (q+1) g with a4 | a4
  ·exfalso
   have eo:=Nat.mul_le_mul_right (Y+P*(j*4294967296+v2)) a4
   rw [Nat.succ_mul] at eo
   omega
  ·exact a4
 have eb:∀ g r:Nat,g < 4294967296→4294967296≤r→g*v2≤r*4294967296+J:=by
  intro g r S M
  have a3:g*v2≤4294967296*4294967296:=Nat.mul_le_mul (by omega) (by omega)
  have a0:4294967296*4294967296≤r*4294967296:=Nat.mul_le_mul_right _ M
  omega
 have ch:∀ g r:Nat,g*j+r=O→(4294967296≤g∨r*4294967296+J < g*v2)→q+1≤g:=by
  intro g r S M
  rcases M with M | M
  ·omega
  ·have a3:=WE (Y:=Y) ep S M
   rcases Nat.lt_or_ge q g with a0 | a0
   ·exact a0
   ·exfalso
    have:=Nat.mul_le_mul_right (Y+P*(j*4294967296+v2)) a0
    omega
 clear ev ey eu
 have ct:(vs.length:Int) - 1=((vs.length - 1:Nat):Int):=by omega
 have c0:(vs.length:Int) - 2=((vs.length - 2:Nat):Int):=by omega
 have c1:(i:Int)+(vs.length:Int)=((i+vs.length:Nat):Int):=by omega
 have c2:((i+vs.length:Nat):Int) - 2=((i+vs.length - 2:Nat):Int):=by omega
 have l1:aj .i64 ((vs.length - 1:Nat):Int)=true:=bz _ (by omega)
 have l2:aj .i64 ((vs.length - 2:Nat):Int)=true:=bz _ (by omega)
 have c8:aj .i64 ((i+vs.length:Nat):Int)=true:=bz _ (by omega)
 have dx:aj .i64 ((i+vs.length - 2:Nat):Int)=true:=bz _ (by omega)
 have bx:decide ((0:Int)≤((vs.length - 1:Nat):Int))=true:=dT (by omega)
 have bD:decide ((0:Int)≤((vs.length - 2:Nat):Int))=true:=dT (by omega)
 have b0:decide ((0:Int)≤((i+vs.length - 2:Nat):Int))=true:=dT (by omega)
 have b1:decide (((vs.length - 1:Nat):Int) < (vs.length:Int))=true:=dT (by omega)
 have b2:decide (((vs.length - 2:Nat):Int) < (vs.length:Int))=true:=dT (by omega)
 have b3:decide (((i+vs.length - 2:Nat):Int) < (G.length:Int))=true:=dT (by omega)
 have b4:decide (i+vs.length - 2 < G.length)=true:=dT (by omega)
 have b6:aj .u64 (j:Int)=true:=cT (by omega)
 have b7:aj .u64 (v2:Int)=true:=cT (by omega)
 have b8:aj .u64 (J:Int)=true:=cT (by omega)
 have a7:∀ g r:Nat,_:=fun g r=>aaM G vs i vs.length g r qs
 simp only [ct,c0,c1,c2,Int.toNat_natCast,Nat.zero_add,Nat.mul_one,l1,l2,c8,dx,bx,bD,b0,b1,b2,b3,b4,ed,eh,ec,b6,b7,b8,ji] at a7
 clear ct c0 c1 c2 l1 l2 c8 dx bx bD b0 b1 b2 b3 b4 b6 b7 b8
 induction n with
 | zero=>
  intro g r a6 Z a1
  subst a6
  have I:=a7 0 r
  rw [dF (show ¬ (0:Int) < ((0 / 4294967296:Nat):Int) by omega)] at I
  refine ⟨((0:Nat),(r:Int)), .last (vu ?_) (by intro h;cases h),0,rfl,a1,by omega,by omega⟩
  by_cases a2:((r / 4294967296:Nat):Int)=0
  ·have eN:r < 4294967296:=by omega
   rw [dT a2,xS r J eN c6,← Int.natCast_mul,Nat.zero_mul,eF (a:=0) (by omega),dF (show ¬ ((r*4294967296+J:Nat):Int) < ((0:Nat):Int) by omega)] at I
   rw [I];rfl
  ·rw [dF a2] at I
   rw [I];rfl
 | succ n e0=>
  intro g r a6 Z a1
  have c5:n*j+(r+j)=O:=by rw [← Z,a6,Nat.succ_mul];omega
  have e4:g < 18446744073709551616:=by
   have:=Nat.le_mul_of_pos_right g c7
   omega
  have I:=a7 g r
  have dy:IntKind.u64.wrap ((g:Int) - 1)=((n:Nat):Int):=(GP (by omega) (by omega)).trans (by omega)
  have b5:q+1≤g→
    iN Tryz.prog bj 2 172 [0,1,2,7,9,10] (lb 172 dV) (false :: dV) (ew G vs i vs.length g r qs) (dL G vs i vs.length g r qs)=(bif decide ((0:Int) < (((r+j) / 4294967296:Nat):Int)) then bif decide (((n / 4294967296:Nat):Int)=0) then some (.exit 0,ew G vs i vs.length n ((r+j:Nat):Int) qs,dL G vs i vs.length n ((r+j:Nat):Int) qs) else some (.normal,ew G vs i vs.length n ((r+j:Nat):Int) qs,dL G vs i vs.length n ((r+j:Nat):Int) qs) else some (.normal,ew G vs i vs.length n ((r+j:Nat):Int) qs,dL G vs i vs.length n ((r+j:Nat):Int) qs))→
    ∃ ρ:Int×Int,bQ Tryz.prog 2 (lb 172 dV) (ew G vs i vs.length g r qs) (dL G vs i vs.length g r qs) (.exit 0) (ew G vs i vs.length ρ.1 ρ.2 qs) (dL G vs i vs.length ρ.1 ρ.2 qs)∧∃ N:Nat,ρ.1=N∧q≤N∧N≤q+1∧N < 4294967296:=by
   intro ab a5
   by_cases U:4294967296≤r+j∧n < 4294967296
   ·rw [dT (show (0:Int) < (((r+j) / 4294967296:Nat):Int) by omega),dT (show ((n / 4294967296:Nat):Int)=0 by omega)] at a5
    exact ⟨((n:Int),((r+j:Nat):Int)), .last (vu a5) (by intro h;cases h),n,rfl,by omega,out n (r+j) U.2 c5 (eb _ _ U.2 U.1),U.2⟩
   ·obtain ⟨ρ,S,M⟩:=e0 n (r+j) rfl c5 (by omega)
    refine ⟨ρ, .more (vu ?_) S,M⟩
    rw [a5]
    by_cases c4:(0:Int) < (((r+j) / 4294967296:Nat):Int)
    ·rw [dT c4,dF (show ¬ ((n / 4294967296:Nat):Int)=0 by omega)]
     rfl
    ·rw [dF c4]
     rfl
  have c3:q+1≤g→IntKind.u64.wrap ((r:Int)+j)=((r+j:Nat):Int):=fun h=>by
   rw [← Int.natCast_add,eF]
   omega
  by_cases en:4294967296≤g
  ·have ab:=ch g r Z (.inl en)
   rw [dT (show (0:Int) < ((g / 4294967296:Nat):Int) by omega),dy,c3 ab,ji,ji] at I
   exact b5 ab I
  ·rw [dF (show ¬ (0:Int) < ((g / 4294967296:Nat):Int) by omega)] at I
   by_cases a2:4294967296≤r
   ·rw [dF (show ¬ ((r / 4294967296:Nat):Int)=0 by omega)] at I
    exact ⟨((g:Int),(r:Int)), .last (vu I) (by intro h;cases h),g,rfl,a1,out g r (by omega) Z (eb g r (by omega) a2),by omega⟩
   ·have e3:g < 4294967296:=by omega
    have ez:r < 4294967296:=by omega
    have e5:g*v2≤4294967295*4294967295:=Nat.mul_le_mul (by omega) (by omega)
    rw [dT (show ((r / 4294967296:Nat):Int)=0 by omega),xS r J ez c6,← Int.natCast_mul g v2,eF (a:=g*v2) (by omega)] at I
    by_cases U:r*4294967296+J < g*v2
    ·have ab:=ch g r Z (.inr U)
     rw [dT (show ((r*4294967296+J:Nat):Int) < ((g*v2:Nat):Int) by omega),dy,c3 ab,ji,ji] at I
     exact b5 ab I
    ·rw [dF (show ¬ ((r*4294967296+J:Nat):Int) < ((g*v2:Nat):Int) by omega)] at I
     exact ⟨((g:Int),(r:Int)), .last (vu I) (by intro h;cases h),g,rfl,a1,out g r (by omega) Z (by omega),by omega⟩
theorem XM (j vs:List Int) (i k g r:Int) (qs:List Int) (h:ue j vs i k g r qs):∃ ρ:Int×Int,bQ Tryz.prog 2 (lb 172 dV) (ew j vs i k g r qs) (dL j vs i k g r qs) (.exit 0) (ew j vs i k ρ.1 ρ.2 qs) (dL j vs i k ρ.1 ρ.2 qs)∧yp j vs i k g r qs ρ:=by
 obtain ⟨i,eu,ev,et,rfl,rfl,N,O,c6,a4,c3,S,ey,ab,b2,b3,rfl,rfl⟩:=h
 have a5:vs.length - 1 < vs.length:=by omega
 have a6:vs.length - 2 < vs.length:=by omega
 have bx:i+vs.length < j.length:=a4
 have bD:i+vs.length - 1 < j.length:=by omega
 have b0:i+vs.length - 2 < j.length:=by omega
 have c5:i+vs.length+1≤j.length:=by omega
 obtain ⟨I,ez,ch,en⟩:=cu N _ bx
 obtain ⟨J,eN,ct,eo⟩:=cu N _ bD
 obtain ⟨b4,b1,c0,ep⟩:=cu N _ b0
 obtain ⟨v2,ec,b8,b7⟩:=cu O _ a6
 obtain ⟨G,eb,b5,b6⟩:=cu O _ a5
 obtain rfl:I=eu:=by rw [en] at b2;exact Int.ofNat.inj b2
 obtain rfl:J=ev:=by rw [eo] at b3;exact Int.ofNat.inj b3
 obtain rfl:G=et:=by rw [b6] at S;exact Int.ofNat.inj S
 have c1:=dD O
 have eh:vL (j.drop (i+vs.length+1))=0:=by
  refine Pd _ c5 (Nat.lt_of_lt_of_le ab ?_)
  rw [show i+vs.length+1=(i+1)+vs.length by omega,Nat.pow_add 4294967296 (i+1) vs.length]
  exact Nat.mul_le_mul_left _ (Nat.le_of_lt c1)
 have dy:vL (j.drop (i+vs.length - 2))=(I*4294967296+J)*4294967296+b4:=by
  rw [List.drop_eq_getElem_cons b0,c0,bU,show i+vs.length - 2+1=i+vs.length - 1 by omega,List.drop_eq_getElem_cons bD,ct,bU,show i+vs.length - 1+1=i+vs.length by omega,List.drop_eq_getElem_cons bx,ch,bU,eh]
  simp only [Int.toNat_natCast]
  omega
 have ed:vL (vs.drop (vs.length - 2))=G*4294967296+v2:=by
  rw [List.drop_eq_getElem_cons a6,b8,bU,show vs.length - 2+1=vs.length - 1 by omega,List.drop_eq_getElem_cons a5,b5,bU,List.drop_of_length_le (by omega),cp]
  simp only [Int.toNat_natCast]
  omega
 have M:=mZ j (i+vs.length - 2) (by omega)
 rw [dy] at M
 have Z:=dD (nH N (i+vs.length - 2))
 rw [List.length_take,Nat.min_eq_left (by omega)] at Z
 have a1:=mZ vs (vs.length - 2) (by omega)
 rw [ed] at a1
 have a3:=dD (nH O (vs.length - 2))
 rw [List.length_take,Nat.min_eq_left (by omega)] at a3
 have a0:4294967296 ^ (i+vs.length - 2)=4294967296 ^ i*4294967296 ^ (vs.length - 2):=by rw [← Nat.pow_add];exact congrArg (4294967296 ^ ·) (by omega)
 have c2:4294967296 ^ i*vL (vs.take (vs.length - 2)) < 4294967296 ^ (i+vs.length - 2):=by
  rw [a0];exact Nat.mul_lt_mul_of_pos_left a3 (Nat.pow_pos (by decide))
 have U:4294967296 ^ i*vL vs=4294967296 ^ i*vL (vs.take (vs.length - 2))+4294967296 ^ (i+vs.length - 2)*(G*4294967296+v2):=by
  rw [a0,Nat.mul_assoc,← Nat.mul_add,← a1]
 have a2:0 < 4294967296 ^ i*vL vs:=by
  rcases Nat.eq_zero_or_pos (vL vs) with h | h
  ·rw [h,Nat.mul_zero] at ab;omega
  ·exact Nat.mul_pos (Nat.pow_pos (by decide)) h
 have dx:I*4294967296+J < 18446744073709551616:=by omega
 have a7:vL j / (4294967296 ^ i*vL vs)*(4294967296 ^ i*vL vs)≤vL j:=Nat.div_mul_le_self _ _
 have c7:vL j < (vL j / (4294967296 ^ i*vL vs)+1)*(4294967296 ^ i*vL vs):=by
  rw [Nat.add_mul,Nat.one_mul]
  exact Nat.lt_div_mul_add a2
 have c8:vL j / (4294967296 ^ i*vL vs) < 4294967296:=by
  rw [Nat.div_lt_iff_lt_mul a2,← Nat.mul_assoc,Nat.mul_comm 4294967296,← Nat.pow_succ]
  exact ab
 unfold yp xq
 rw [Int.toNat_natCast]
 have c4:=WG (P:=4294967296 ^ (i+vs.length - 2)) (X:=vL (j.take (i+vs.length - 2))) (Y:=4294967296 ^ i*vL (vs.take (vs.length - 2))) (v2:=v2) Z b1 (show 1≤G by omega) (by rw [← M,← U];exact a7)
 exact WO j vs qs i a4 c3 c6 b4 G v2 b1 eb (by omega) ec ep S b7 (4294967296 ^ (i+vs.length - 2)) (vL (j.take (i+vs.length - 2))) (4294967296 ^ i*vL (vs.take (vs.length - 2))) (I*4294967296+J) Z c2 dx _ c8 (by rw [← M,← U];exact a7) (by rw [← M,← U];exact c7) _ _ ((I*4294967296+J) % G) rfl (by rw [Nat.mul_comm];exact Nat.div_add_mod _ _) c4
def F1 (N:List Int→List Int→Int→Int→Int→Int→List Int→Bool) (J:List Int→List Int→Int→Int→Int→Int→List Int→Int×Int) (T:List AV) (H:Hp):Option (Bool×Ex×List AV×Hp):=
 match al T 0,al T 1,al T 2,al T 7,al T 9,al T 10,H with
 | .sl false 129 0 0 M, .lst false 129 G j, .val (.int .i64 i), .val (.int .i64 k), .val (.int .u64 g), .val (.int .u64 r), [.row (.ints .u32 I) 129 .live, .row (.ints .u32 qs) 129 .live]=>bif T.length==194 then some (okB G j&&decide (M=I.length)&&N I (rowOf G j) i k g r qs, .exit 0,ew I (rowOf G j) i k ((J I (rowOf G j) i k g r qs).1) ((J I (rowOf G j) i k g r qs).2) qs,dL I (rowOf G j) i k ((J I (rowOf G j) i k g r qs).1) ((J I (rowOf G j) i k g r qs).2) qs) else none
 | _,_,_,_,_,_,_=>none
abbrev Aw:Type:=List Int→List Int→Int→Int→Int→Int→List Int→Bool
abbrev Ad:Type:=List Int→List Int→Int→Int→Int→Int→List Int→Int×Int
def IV (j:Aw) (G:Ad) (L:aE):aE:=bp 2 172 dV [0,1,2,7,9,10] (F1 j G) L
def lN (j:List Int) (vs:List Int) (i:Int) (k:Int) (g:Int) (r:Int) (qs:List Int):Int×Int:=Classical.epsilon fun ρ=>bQ Tryz.prog 2 (lb 172 dV) (ew j vs i k g r qs) (dL j vs i k g r qs) (.exit 0) (ew j vs i k (ρ.1) (ρ.2) qs) (dL j vs i k (ρ.1) (ρ.2) qs)∧yp j vs i k g r qs ρ
theorem Mi (j:List Int) (vs:List Int) (i:Int) (k:Int) (g:Int) (r:Int) (qs:List Int) (h:ue j vs i k g r qs):bQ Tryz.prog 2 (lb 172 dV) (ew j vs i k g r qs) (dL j vs i k g r qs) (.exit 0) (ew j vs i k ((lN j vs i k g r qs).1) ((lN j vs i k g r qs).2) qs) (dL j vs i k ((lN j vs i k g r qs).1) ((lN j vs i k g r qs).2) qs)∧yp j vs i k g r qs (lN j vs i k g r qs):=Classical.epsilon_spec (XM j vs i k g r qs h)
def qg (j:List Int) (vs:List Int) (i:Int) (k:Int) (g:Int) (r:Int) (qs:List Int):Bool:= @decide (ue j vs i k g r qs) (Classical.propDecidable _)
theorem TN (j:List Int) (vs:List Int) (i:Int) (k:Int) (g:Int) (r:Int) (qs:List Int) (h:ue j vs i k g r qs):qg j vs i k g r qs=true:= @decide_eq_true _ (Classical.propDecidable _) h
theorem adh (T:List AV) (H:Hp) (e:Ex) (I:List AV) (G:Hp) (h:F1 qg lN T H=some (true,e,I,G)):V.Ends Tryz.prog false 2 0 (.loop (lb 172 dV)) T H e I G:=by
 unfold F1 at h
 split at h
 ·rename_i a7 a5 N i k g r a6 qs O S Z ab a0 U
  rw [Bool.cond_eq_ite] at h
  split at h
  ·rename_i J
   rw [beq_iff_eq] at J
   simp only [Option.some.injEq,Prod.mk.injEq,Bool.and_eq_true,decide_eq_true_eq] at h
   obtain ⟨⟨⟨k1,a2⟩,a3⟩,rfl,rfl,rfl⟩:=h
   have a4:= @of_decide_eq_true _ (Classical.propDecidable _) a3
   refine Ends.pre (Mi a6 (rowOf a5 N) i k g r qs a4).1.ends (fun α B w D bx a1=>bm J (fun p M y j=> ?_) a1)
   simp only [List.mem_cons,List.not_mem_nil,or_false] at M
   rcases M with rfl | rfl | rfl | rfl | rfl | rfl
   ·rw [O] at j;rw [← a2];exact j
   ·rw [S] at j;rw [cc];exact cn bZ k1 j
   ·rw [Z] at j;exact j
   ·rw [ab] at j;exact j
   ·rw [a0] at j;exact j
   ·rw [U] at j;exact j
  ·cases h
 ·cases h
theorem P8 {L:aE} (h:aB Tryz.prog L):aB Tryz.prog (IV qg lN L):=h.br Rf adh
end
end Go.Proofs.YtamcpiicmfielaaGreat.L
namespace Go.Proofs.YtamcpiicmfielaaGreat.L
open Go Go.V Go.RowKit Go.Proofs.YtamcpiicmfielaaGreat.Sp Go.Proofs.YtamcpiicmfielaaGreat.F Go.Proofs.YtamcpiicmfielaaGreatW.PrintWords
open Go.Proofs (Tryz.prog)
noncomputable section
abbrev fO:List Bool:= [false,true,false,true,true,true,true,true,true]
def iS (I:List Int) (vs:List Int) (i:Int) (k:Int) (g:Int) (c:Int) (b:Int) (j:List Int) (n:Int) (G:Int) (qs:List Int):List AV:=av 194 [(0, .sl false 129 0 0 I.length),(1, .lst false 129 vs.length (ai vs)),(2, .val (.int .i64 i)),(7, .val (.int .i64 k)),(9, .val (.int .u64 g)),(11, .val (.int .u64 c)),(12, .val (.int .u32 b)),(101, .lst false 129 j.length (ai j)),(102, .val (.int .i64 n)),(103, .val (.int .i64 G))]
def iv (j:List Int) (vs:List Int) (i:Int) (k:Int) (g:Int) (c:Int) (b:Int) (I:List Int) (n:Int) (G:Int) (qs:List Int):Hp:= [.row (.ints .u32 j) 129 .live, .row (.ints .u32 qs) 129 .live]
theorem Rp:aJ Tryz.prog 172 fO=some (.loop (lb 172 fO)):=by kernel_rfl
theorem SY:aJ Tryz.prog 172 (false :: fO)=some (lb 172 fO):=by kernel_rfl
theorem Nb (G:List Int) (vs:List Int) (i:Int) (k:Int) (g:Int) (c:Int) (b:Int) (I:List Int) (n:Int) (j:Int) (qs:List Int):letI J:=(IntKind.u64.wrap (c+IntKind.u64.wrap (g*I.getD j.toNat (0:Int))));letI M:=((0:Nat)+(i+j).toNat*(1:Nat));
  (iN Tryz.prog pX 2 172 [0,1,2,7,9,11,12,101,102,103] (lb 172 fO) (false :: fO) (iS G vs i k g c b I n j qs) (iv G vs i k g c b I n j qs)=(bif decide (j < n) then (bif decide ((0:Int)≤j)&&decide (j < (↑I.length:Int)) then (bif aj IntKind.u64 (I.getD j.toNat (0:Int)) then (bif aj IntKind.i64 (i+j) then (bif aj IntKind.i64 (i+j) then (bif decide ((0:Int)≤i+j)&&decide (i+j < (↑G.length:Int)) then (bif decide ((0:Nat)+(i+j).toNat*(1:Nat) < G.length) then (bif bS (G.getD M (0:Int))&&bS (IntKind.u32.wrap J)&&decide ((0:Int)≤b)&&decide (b≤(1:Int)) then (bif decide ((0:Int)≤i+j)&&decide (i+j < (↑G.length:Int)) then (bif decide ((0:Nat)+(i+j).toNat*(1:Nat) < G.length) then (bif aj IntKind.i64 (j+(1:Int)) then some (.normal,av 194 [(0,(.sl false 129 0 0 G.length)),(1,(.lst false 129 vs.length (ai vs))),(2,(.val (.int .i64 i))),(7,(.val (.int .i64 k))),(9,(.val (.int .u64 g))),(11,(.val (.int .u64 (J.fdiv (4294967296:Int))))),(12,(.val (.int .u32 (if G.getD M (0:Int) < IntKind.u32.wrap J+b then (1:Int) else (0:Int))))),(101,(.lst false 129 I.length (ai I))),(102,(.val (.int .i64 n))),(103,(.val (.int .i64 (j+(1:Int)))))], [(.row (.ints .u32 (G.set M ((G.getD M (0:Int)+(8589934592:Int) - IntKind.u32.wrap J - b) % (4294967296:Int)))) 129 .live),(.row (.ints .u32 qs) 129 .live)]) else none) else none) else none) else none) else none) else none) else none) else none) else none) else none) else some ((.exit 2),av 194 [(0,(.sl false 129 0 0 G.length)),(1,(.lst false 129 vs.length (ai vs))),(2,(.val (.int .i64 i))),(7,(.val (.int .i64 k))),(9,(.val (.int .u64 g))),(11,(.val (.int .u64 c))),(12,(.val (.int .u32 b))),(101,(.lst false 129 I.length (ai I))),(102,(.val (.int .i64 n))),(103,(.val (.int .i64 j)))], [(.row (.ints .u32 G) 129 .live),(.row (.ints .u32 qs) 129 .live)]))):=by kernel_rfl
theorem Oe {G:List Int} {vs:List Int} {i:Int} {k:Int} {g:Int} {c:Int} {b:Int} {I:List Int} {n:Int} {j:Int} {qs:List Int} {e:Ex} {T:List AV} {H:Hp} (h:iN Tryz.prog pX 2 172 [0,1,2,7,9,11,12,101,102,103] (lb 172 fO) (false :: fO) (iS G vs i k g c b I n j qs) (iv G vs i k g c b I n j qs)=some (e,T,H)):V.Ends Tryz.prog false 2 0 (lb 172 fO) (iS G vs i k g c b I n j qs) (iv G vs i k g c b I n j qs) e T H:=
 vd Hd aK mixed SY h
def ur (j vs:List Int) (i k g c b:Int) (G:List Int) (n M:Int) (qs:List Int):Prop:=∃ J I:Nat,i=J∧g=I∧I < 4294967296∧aI j∧aI G∧j.length≤17592186044416∧J+G.length < j.length∧c=0∧b=0∧n=G.length∧M=0
def yr (I vs:List Int) (i k g c b:Int) (j:List Int) (n J:Int) (qs:List Int) (r:List Int×Int×Int×Int):Prop:=∃ c' G:Nat,r.2.1=c'∧r.2.2.1=G∧c' < 4294967296∧G≤1∧aI r.1∧r.1.length=I.length∧r.1.drop (i.toNat+j.length)=I.drop (i.toNat+j.length)∧vL r.1+4294967296 ^ i.toNat*(g.toNat*vL j)=vL I+4294967296 ^ (i.toNat+j.length)*(c'+G)
theorem YE (vs G qs:List Int) (k:Int) (ed:aI G) (i g:Nat) (eN:g < 4294967296) (d:Nat):∀ (j c b T:Nat) (I:List Int),j+d=G.length→aI I→I.length≤17592186044416→i+G.length < I.length→c < 4294967296→b≤1→
  dE (vL I+4294967296 ^ i*(g*vL (G.take j))=T+4294967296 ^ (i+j)*(c+b))→
  ∃ r:List Int×Int×Int×Int,bQ Tryz.prog 2 (lb 172 fO) (iS I vs i k g c b G G.length j qs) (iv I vs i k g c b G G.length j qs) (.exit 2) (iS r.1 vs i k g r.2.1 r.2.2.1 G G.length r.2.2.2 qs) (iv r.1 vs i k g r.2.1 r.2.2.1 G G.length r.2.2.2 qs)∧
   ∃ c' J:Nat,r.2.1=c'∧r.2.2.1=J∧c' < 4294967296∧J≤1∧aI r.1∧r.1.length=I.length∧r.1.drop (i+G.length)=I.drop (i+G.length)∧vL r.1+4294967296 ^ i*(g*vL G)=T+4294967296 ^ (i+G.length)*(c'+J):=by
 induction d with
 | zero=>
  intro j c b T I c8 M a6 bx a7 a5 U
  have dx:j=G.length:=by omega
  subst dx
  refine ⟨(I,(c:Int),(b:Int),(G.length:Int)), .last (Oe ?_) (by intro h;cases h),c,b,rfl,rfl,a7,a5,M,rfl,rfl, ?_⟩
  ·rw [Nb,dF (show ¬ ((G.length:Int) < G.length) by omega)]
   rfl
  ·have:=U.out
   rw [List.take_length] at this
   exact this
 | succ d b1=>
  intro j c b T I c8 M a6 bx a7 a5 ab
  have bD:j < G.length:=by omega
  have Z:i+j < I.length:=by omega
  obtain ⟨y,e1,c7,ec⟩:=cu ed j bD
  obtain ⟨x,eh,c6,eb⟩:=cu M (i+j) Z
  have N:=dE.mk (kD G j bD)
  rw [c7,Int.toNat_natCast] at N
  have e0:g*y≤4294967295*4294967295:=Nat.mul_le_mul (by omega) (by omega)
  have c5:(c+g*y) / 4294967296 < 4294967296:=by omega
  have dy:(c+g*y) % 4294967296 < 4294967296:=Nat.mod_lt _ (by decide)
  have c1:(x+8589934592 - (c+g*y) % 4294967296 - b) % 4294967296+(c+g*y) % 4294967296+b=x+4294967296*(if x < (c+g*y) % 4294967296+b then 1 else 0):=by
   generalize (c+g*y) % 4294967296=z at*
   split <;> omega
  have a1:(if (x:Int) < (((c+g*y) % 4294967296:Nat):Int)+(b:Int) then (1:Int) else 0)=((if x < (c+g*y) % 4294967296+b then 1 else 0:Nat):Int):=by
   generalize (c+g*y) % 4294967296=z at*
   split <;> split <;> omega
  have a2:((x:Int)+8589934592 - (((c+g*y) % 4294967296:Nat):Int) - (b:Int)) % 4294967296=(((x+8589934592 - (c+g*y) % 4294967296 - b) % 4294967296:Nat):Int):=by
   generalize (c+g*y) % 4294967296=z at*
   omega
  have c4:(if x < (c+g*y) % 4294967296+b then 1 else 0:Nat)≤1:=by split <;> omega
  have c2:(x+8589934592 - (c+g*y) % 4294967296 - b) % 4294967296 < 4294967296:=Nat.mod_lt _ (by decide)
  have b0:=Nb I vs i k g c b G G.length j qs
  have S:(i:Int)+(j:Int)=((i+j:Nat):Int):=by omega
  rw [S,Int.toNat_natCast,Int.toNat_natCast,Nat.zero_add,Nat.mul_one,ec,eb,cT (show 0≤(y:Int)∧(y:Int)≤18446744073709551615 by omega),bz (i+j) (by omega),aO (show -9223372036854775808≤(j:Int)+1∧(j:Int)+1≤9223372036854775807 by omega),dT (show (j:Int) < G.length by omega),dT (show (0:Int)≤(j:Int) by omega),dT (show (0:Int)≤((i+j:Nat):Int) by omega),dT (show ((i+j:Nat):Int) < (I.length:Int) by omega),dT Z,
   ← Int.natCast_mul g y,eF (a:=g*y) (by omega),← Int.natCast_add c (g*y),eF (a:=c+g*y) (by omega),dm,e9 eh,e9 dy,dT (show (0:Int)≤(b:Int) by omega),dT (show (b:Int)≤1 by omega),ji,a1,a2] at b0
  clear a1 a2
  generalize ez:(if x < (c+g*y) % 4294967296+b then 1 else 0:Nat)=J at*
  generalize (x+8589934592 - (c+g*y) % 4294967296 - b) % 4294967296=D at*
  have O:=dE.mk (n7 I (i+j) Z (D:Int))
  rw [c6,Int.toNat_natCast,Int.toNat_natCast] at O
  obtain ⟨r,a4,b3,b2,b5,b6,b7,b8,ch,ct,c0,a3⟩:=b1 (j+1) ((c+g*y) / 4294967296) J T (I.set (i+j) (D:Int)) (by omega) (fg M _ _ (Int.natCast_nonneg _) (Int.ofNat_lt.2 c2)) (by rw [List.length_set];exact a6) (by rw [List.length_set];exact bx) c5 c4 (by
   have U:=ab.out
   have c3:=N.out
   have ey:=O.out
   constructor
   rw [c3,show i+(j+1)=(i+j)+1 from rfl,Nat.pow_succ]
   have S:4294967296 ^ i*(g*(vL (G.take j)+4294967296 ^ j*y))=4294967296 ^ i*(g*vL (G.take j))+4294967296 ^ (i+j)*(g*y):=by rw [Nat.pow_add];grind
   have b4:4294967296 ^ (i+j)*((c+g*y) % 4294967296)+4294967296 ^ (i+j)*4294967296*((c+g*y) / 4294967296)=4294967296 ^ (i+j)*(c+g*y):=by
    rw [Nat.mul_assoc,← Nat.mul_add,Nat.mod_add_div]
   have a0:=congrArg (4294967296 ^ (i+j)* ·) c1
   simp only [Nat.mul_add] at S b4 a0 U ⊢
   rw [← Nat.mul_assoc] at a0
   generalize 4294967296 ^ i*(g*(4294967296 ^ j*y))=ev at*
   generalize 4294967296 ^ (i+j)*((c+g*y) % 4294967296)=en at*
   generalize 4294967296 ^ (i+j)*4294967296*((c+g*y) / 4294967296)=eo at*
   generalize 4294967296 ^ (i+j)*4294967296*J=ep at*
   generalize 4294967296 ^ (i+j)*(g*y)=et at*
   generalize 4294967296 ^ i*(g*vL (G.take j))=eu at*
   omega)
  refine ⟨r, .more (Oe ?_) a4,b3,b2,b5,b6,b7,b8,ch,by rw [ct,List.length_set],by rw [c0,List.drop_set_of_lt (by omega)],a3⟩
  clear a4 a3 b1 ab N O
  rw [b0]
  unfold iS iv
  rw [List.length_set]
  rfl
theorem XW (G vs:List Int) (i k g c b:Int) (j:List Int) (n I:Int) (qs:List Int) (h:ur G vs i k g c b j n I qs):∃ r:List Int×Int×Int×Int,bQ Tryz.prog 2 (lb 172 fO) (iS G vs i k g c b j n I qs) (iv G vs i k g c b j n I qs) (.exit 2) (iS r.1 vs i k g r.2.1 r.2.2.1 j n r.2.2.2 qs) (iv r.1 vs i k g r.2.1 r.2.2.1 j n r.2.2.2 qs)∧yr G vs i k g c b j n I qs r:=by
 obtain ⟨i,g,rfl,rfl,M,O,S,J,N,rfl,rfl,rfl,rfl⟩:=h
 unfold yr
 rw [Int.toNat_natCast,Int.toNat_natCast]
 exact YE vs j qs k S i g M j.length 0 0 0 (vL G) G (by omega) O J N (by omega) (by omega) ⟨by rw [List.take_zero,cp];simp⟩
def Gb (U:List Int→List Int→Int→Int→Int→Int→Int→List Int→Int→Int→List Int→Bool) (O:List Int→List Int→Int→Int→Int→Int→Int→List Int→Int→Int→List Int→List Int×Int×Int×Int) (T:List AV) (H:Hp):Option (Bool×Ex×List AV×Hp):=
 match al T 0,al T 1,al T 2,al T 7,al T 9,al T 11,al T 12,al T 101,al T 102,al T 103,H with
 | .sl false 129 0 0 S, .lst false 129 I j, .val (.int .i64 i), .val (.int .i64 k), .val (.int .u64 g), .val (.int .u64 c), .val (.int .u32 b), .lst false 129 J G, .val (.int .i64 n), .val (.int .i64 N), [.row (.ints .u32 M) 129 .live, .row (.ints .u32 qs) 129 .live]=>bif T.length==194 then some (okB I j&&okB J G&&decide (S=M.length)&&U M (rowOf I j) i k g c b (rowOf J G) n N qs, .exit 2,iS ((O M (rowOf I j) i k g c b (rowOf J G) n N qs).1) (rowOf I j) i k g ((O M (rowOf I j) i k g c b (rowOf J G) n N qs).2.1) ((O M (rowOf I j) i k g c b (rowOf J G) n N qs).2.2.1) (rowOf J G) n ((O M (rowOf I j) i k g c b (rowOf J G) n N qs).2.2.2) qs,iv ((O M (rowOf I j) i k g c b (rowOf J G) n N qs).1) (rowOf I j) i k g ((O M (rowOf I j) i k g c b (rowOf J G) n N qs).2.1) ((O M (rowOf I j) i k g c b (rowOf J G) n N qs).2.2.1) (rowOf J G) n ((O M (rowOf I j) i k g c b (rowOf J G) n N qs).2.2.2) qs) else none
 | _,_,_,_,_,_,_,_,_,_,_=>none
abbrev Ax:Type:=List Int→List Int→Int→Int→Int→Int→Int→List Int→Int→Int→List Int→Bool
abbrev Ae:Type:=List Int→List Int→Int→Int→Int→Int→Int→List Int→Int→Int→List Int→List Int×Int×Int×Int
def IX (j:Ax) (G:Ae) (L:aE):aE:=bp 2 172 fO [0,1,2,7,9,11,12,101,102,103] (Gb j G) L
def gm (I:List Int) (vs:List Int) (i:Int) (k:Int) (g:Int) (c:Int) (b:Int) (j:List Int) (n:Int) (G:Int) (qs:List Int):List Int×Int×Int×Int:=Classical.epsilon fun ρ=>bQ Tryz.prog 2 (lb 172 fO) (iS I vs i k g c b j n G qs) (iv I vs i k g c b j n G qs) (.exit 2) (iS (ρ.1) vs i k g (ρ.2.1) (ρ.2.2.1) j n (ρ.2.2.2) qs) (iv (ρ.1) vs i k g (ρ.2.1) (ρ.2.2.1) j n (ρ.2.2.2) qs)∧yr I vs i k g c b j n G qs ρ
theorem Mp (I:List Int) (vs:List Int) (i:Int) (k:Int) (g:Int) (c:Int) (b:Int) (j:List Int) (n:Int) (G:Int) (qs:List Int) (h:ur I vs i k g c b j n G qs):bQ Tryz.prog 2 (lb 172 fO) (iS I vs i k g c b j n G qs) (iv I vs i k g c b j n G qs) (.exit 2) (iS ((gm I vs i k g c b j n G qs).1) vs i k g ((gm I vs i k g c b j n G qs).2.1) ((gm I vs i k g c b j n G qs).2.2.1) j n ((gm I vs i k g c b j n G qs).2.2.2) qs) (iv ((gm I vs i k g c b j n G qs).1) vs i k g ((gm I vs i k g c b j n G qs).2.1) ((gm I vs i k g c b j n G qs).2.2.1) j n ((gm I vs i k g c b j n G qs).2.2.2) qs)∧yr I vs i k g c b j n G qs (gm I vs i k g c b j n G qs):=Classical.epsilon_spec (XW I vs i k g c b j n G qs h)
def qh (G:List Int) (vs:List Int) (i:Int) (k:Int) (g:Int) (c:Int) (b:Int) (I:List Int) (n:Int) (j:Int) (qs:List Int):Bool:= @decide (ur G vs i k g c b I n j qs) (Classical.propDecidable _)
theorem TW (G:List Int) (vs:List Int) (i:Int) (k:Int) (g:Int) (c:Int) (b:Int) (I:List Int) (n:Int) (j:Int) (qs:List Int) (h:ur G vs i k g c b I n j qs):qh G vs i k g c b I n j qs=true:= @decide_eq_true _ (Classical.propDecidable _) h
theorem adr (T:List AV) (H:Hp) (e:Ex) (I:List AV) (G:Hp) (h:Gb qh gm T H=some (true,e,I,G)):V.Ends Tryz.prog false 2 0 (.loop (lb 172 fO)) T H e I G:=by
 unfold Gb at h
 split at h
 ·rename_i b5 b2 N i k g c b b3 O n a7 b4 qs S U a3 a4 a5 a1 a2 Z ab a0
  rw [Bool.cond_eq_ite] at h
  split at h
  ·rename_i J
   rw [beq_iff_eq] at J
   simp only [Option.some.injEq,Prod.mk.injEq,Bool.and_eq_true,decide_eq_true_eq] at h
   obtain ⟨⟨⟨⟨k1,bx⟩,bD⟩,b0⟩,rfl,rfl,rfl⟩:=h
   have b1:= @of_decide_eq_true _ (Classical.propDecidable _) b0
   refine Ends.pre (Mp b4 (rowOf b2 N) i k g c b (rowOf b3 O) n a7 qs b1).1.ends (fun α B w D b6 a6=>bm J (fun p M y j=> ?_) a6)
   simp only [List.mem_cons,List.not_mem_nil,or_false] at M
   rcases M with rfl | rfl | rfl | rfl | rfl | rfl | rfl | rfl | rfl | rfl
   ·rw [S] at j;rw [← bD];exact j
   ·rw [U] at j;rw [cc];exact cn bZ k1 j
   ·rw [a3] at j;exact j
   ·rw [a4] at j;exact j
   ·rw [a5] at j;exact j
   ·rw [a1] at j;exact j
   ·rw [a2] at j;exact j
   ·rw [Z] at j;rw [cc];exact cn bZ bx j
   ·rw [ab] at j;exact j
   ·rw [a0] at j;exact j
  ·cases h
 ·cases h
theorem Qi {L:aE} (h:aB Tryz.prog L):aB Tryz.prog (IX qh gm L):=h.br Rp adr
abbrev fJ:List Bool:= [false,true,false,true,true,true,true,true,true,true,true,true,true]
def iO (I:List Int) (vs:List Int) (i:Int) (k:Int) (g:Int) (s:Int) (j:List Int) (n:Int) (G:Int) (qs:List Int):List AV:=av 194 [(0, .sl false 129 0 0 I.length),(1, .lst false 129 vs.length (ai vs)),(2, .val (.int .i64 i)),(7, .val (.int .i64 k)),(9, .val (.int .u64 g)),(15, .val (.int .u32 s)),(157, .lst false 129 j.length (ai j)),(158, .val (.int .i64 n)),(159, .val (.int .i64 G))]
def ir (j:List Int) (vs:List Int) (i:Int) (k:Int) (g:Int) (s:Int) (I:List Int) (n:Int) (G:Int) (qs:List Int):Hp:= [.row (.ints .u32 j) 129 .live, .row (.ints .u32 qs) 129 .live]
theorem Q6:aJ Tryz.prog 172 fJ=some (.loop (lb 172 fJ)):=by kernel_rfl
theorem SG:aJ Tryz.prog 172 (false :: fJ)=some (lb 172 fJ):=by kernel_rfl
theorem M3 (G:List Int) (vs:List Int) (i:Int) (k:Int) (g:Int) (s:Int) (I:List Int) (n:Int) (j:Int) (qs:List Int):letI J:=((0:Nat)+(i+j).toNat*(1:Nat));
  (iN Tryz.prog zX 2 172 [0,1,2,7,9,15,157,158,159] (lb 172 fJ) (false :: fJ) (iO G vs i k g s I n j qs) (ir G vs i k g s I n j qs)=(bif decide (j < n) then (bif decide ((0:Int)≤j)&&decide (j < (↑I.length:Int)) then (bif aj IntKind.i64 (i+j) then (bif aj IntKind.i64 (i+j) then (bif decide ((0:Int)≤i+j)&&decide (i+j < (↑G.length:Int)) then (bif decide ((0:Nat)+(i+j).toNat*(1:Nat) < G.length) then (bif bS (G.getD J (0:Int))&&bS (I.getD j.toNat (0:Int))&&bS s&&decide (s≤(1:Int)) then (bif decide ((0:Int)≤i+j)&&decide (i+j < (↑G.length:Int)) then (bif decide ((0:Nat)+(i+j).toNat*(1:Nat) < G.length) then (bif aj IntKind.i64 (j+(1:Int)) then some (.normal,av 194 [(0,(.sl false 129 0 0 G.length)),(1,(.lst false 129 vs.length (ai vs))),(2,(.val (.int .i64 i))),(7,(.val (.int .i64 k))),(9,(.val (.int .u64 g))),(15,(.val (.int .u32 ((G.getD J (0:Int)+I.getD j.toNat (0:Int)+s) / (4294967296:Int))))),(157,(.lst false 129 I.length (ai I))),(158,(.val (.int .i64 n))),(159,(.val (.int .i64 (j+(1:Int)))))], [(.row (.ints .u32 (G.set J ((G.getD J (0:Int)+I.getD j.toNat (0:Int)+s) % (4294967296:Int)))) 129 .live),(.row (.ints .u32 qs) 129 .live)]) else none) else none) else none) else none) else none) else none) else none) else none) else none) else some ((.exit 4),av 194 [(0,(.sl false 129 0 0 G.length)),(1,(.lst false 129 vs.length (ai vs))),(2,(.val (.int .i64 i))),(7,(.val (.int .i64 k))),(9,(.val (.int .u64 g))),(15,(.val (.int .u32 s))),(157,(.lst false 129 I.length (ai I))),(158,(.val (.int .i64 n))),(159,(.val (.int .i64 j)))], [(.row (.ints .u32 G) 129 .live),(.row (.ints .u32 qs) 129 .live)]))):=by kernel_rfl
theorem N6 {G:List Int} {vs:List Int} {i:Int} {k:Int} {g:Int} {s:Int} {I:List Int} {n:Int} {j:Int} {qs:List Int} {e:Ex} {T:List AV} {H:Hp} (h:iN Tryz.prog zX 2 172 [0,1,2,7,9,15,157,158,159] (lb 172 fJ) (false :: fJ) (iO G vs i k g s I n j qs) (ir G vs i k g s I n j qs)=some (e,T,H)):V.Ends Tryz.prog false 2 0 (lb 172 fJ) (iO G vs i k g s I n j qs) (ir G vs i k g s I n j qs) e T H:=
 vd PQ aK mixed SG h
def tT (j vs:List Int) (i k g s:Int) (G:List Int) (n J:Int) (qs:List Int):Prop:=∃ I:Nat,i=I∧aI j∧aI G∧j.length≤17592186044416∧I+G.length < j.length∧s=0∧n=G.length∧J=0
def ym (I vs:List Int) (i k g s:Int) (j:List Int) (n J:Int) (qs:List Int) (r:List Int×Int×Int):Prop:=∃ G:Nat,r.2.1=G∧G≤1∧aI r.1∧r.1.length=I.length∧r.1.drop (i.toNat+j.length)=I.drop (i.toNat+j.length)∧vL r.1+4294967296 ^ (i.toNat+j.length)*G=vL I+4294967296 ^ i.toNat*vL j
theorem QL (vs G qs:List Int) (k g:Int) (c2:aI G) (i:Nat) (d:Nat):∀ (j s T:Nat) (I:List Int),j+d=G.length→aI I→I.length≤17592186044416→i+G.length < I.length→s≤1→
  dE (vL I+4294967296 ^ (i+j)*s=T+4294967296 ^ i*vL (G.take j))→
  ∃ r:List Int×Int×Int,bQ Tryz.prog 2 (lb 172 fJ) (iO I vs i k g s G G.length j qs) (ir I vs i k g s G G.length j qs) (.exit 4) (iO r.1 vs i k g r.2.1 G G.length r.2.2 qs) (ir r.1 vs i k g r.2.1 G G.length r.2.2 qs)∧
   ∃ U:Nat,r.2.1=U∧U≤1∧aI r.1∧r.1.length=I.length∧r.1.drop (i+G.length)=I.drop (i+G.length)∧vL r.1+4294967296 ^ (i+G.length)*U=T+4294967296 ^ i*vL G:=by
 induction d with
 | zero=>
  intro j s T I b7 M a2 a3 a6 a1
  have b8:j=G.length:=by omega
  subst b8
  refine ⟨(I,(s:Int),(G.length:Int)), .last (N6 ?_) (by intro h;cases h),s,rfl,a6,M,rfl,rfl, ?_⟩
  ·rw [M3,dF (show ¬ ((G.length:Int) < G.length) by omega)]
   rfl
  ·have:=a1.out
   rw [List.take_length] at this
   exact this
 | succ d a7=>
  intro j s T I b7 M a2 a3 a6 Z
  have a4:j < G.length:=by omega
  have S:i+j < I.length:=by omega
  obtain ⟨y,c4,b6,c0⟩:=cu c2 j a4
  obtain ⟨x,c3,b5,ct⟩:=cu M (i+j) S
  have N:=dE.mk (kD G j a4)
  rw [b6,Int.toNat_natCast] at N
  have ch:(x+y+s) % 4294967296 < 4294967296:=Nat.mod_lt _ (by decide)
  have c1:(x+y+s) / 4294967296≤1:=by omega
  have O:=dE.mk (n7 I (i+j) S (((x+y+s) % 4294967296:Nat):Int))
  rw [b5,Int.toNat_natCast,Int.toNat_natCast] at O
  obtain ⟨r,a0,c5,bD,b0,b1,b2,b3,ab⟩:=a7 (j+1) ((x+y+s) / 4294967296) T (I.set (i+j) (((x+y+s) % 4294967296:Nat):Int)) (by omega) (fg M _ _ (Int.natCast_nonneg _) (Int.ofNat_lt.2 ch)) (by rw [List.length_set];exact a2) (by rw [List.length_set];exact a3) c1 (by
   have a1:=Z.out
   have b4:=N.out
   have dx:=O.out
   constructor
   rw [b4,show i+(j+1)=(i+j)+1 from rfl,Nat.pow_succ]
   have J:4294967296 ^ i*(vL (G.take j)+4294967296 ^ j*y)=4294967296 ^ i*vL (G.take j)+4294967296 ^ (i+j)*y:=by rw [Nat.pow_add];grind
   have bx:4294967296 ^ (i+j)*((x+y+s) % 4294967296)+4294967296 ^ (i+j)*4294967296*((x+y+s) / 4294967296)=4294967296 ^ (i+j)*(x+y+s):=by
    rw [Nat.mul_assoc,← Nat.mul_add,Nat.mod_add_div]
   simp only [Nat.mul_add] at bx ⊢
   simp only [Nat.mul_add] at J
   rw [J]
   generalize 4294967296 ^ (i+j)*((x+y+s) % 4294967296)=c6 at*
   generalize 4294967296 ^ (i+j)*4294967296*((x+y+s) / 4294967296)=c7 at*
   generalize 4294967296 ^ i*vL (G.take j)=c8 at*
   omega)
  refine ⟨r, .more (N6 ?_) a0,c5,bD,b0,b1,by rw [b2,List.length_set],by rw [b3,List.drop_set_of_lt (by omega)],ab⟩
  clear a0 ab a7 Z N O
  have a5:=M3 I vs i k g s G G.length j qs
  have J:(i:Int)+(j:Int)=((i+j:Nat):Int):=by omega
  rw [J,Int.toNat_natCast,Int.toNat_natCast,Nat.zero_add,Nat.mul_one,c0,ct,bz (i+j) (by omega),aO (show -9223372036854775808≤(j:Int)+1∧(j:Int)+1≤9223372036854775807 by omega),dT (show (j:Int) < G.length by omega),dT (show (0:Int)≤(j:Int) by omega),dT (show (0:Int)≤((i+j:Nat):Int) by omega),dT (show ((i+j:Nat):Int) < (I.length:Int) by omega),dT S,e9 c3,e9 c4,e9 (show s < 4294967296 by omega),dT (show (s:Int)≤1 by omega)] at a5
  rw [a5]
  unfold iO ir
  rw [List.length_set]
  rfl
theorem XD (G vs:List Int) (i k g s:Int) (j:List Int) (n I:Int) (qs:List Int) (h:tT G vs i k g s j n I qs):∃ r:List Int×Int×Int,bQ Tryz.prog 2 (lb 172 fJ) (iO G vs i k g s j n I qs) (ir G vs i k g s j n I qs) (.exit 4) (iO r.1 vs i k g r.2.1 j n r.2.2 qs) (ir r.1 vs i k g r.2.1 j n r.2.2 qs)∧ym G vs i k g s j n I qs r:=by
 obtain ⟨i,rfl,N,O,J,M,rfl,rfl,rfl⟩:=h
 unfold ym
 rw [Int.toNat_natCast]
 exact QL vs j qs k g O i j.length 0 0 (vL G) G (by omega) N J M (by omega) ⟨by rw [List.take_zero,cp];simp⟩
def FR (U:List Int→List Int→Int→Int→Int→Int→List Int→Int→Int→List Int→Bool) (O:List Int→List Int→Int→Int→Int→Int→List Int→Int→Int→List Int→List Int×Int×Int) (T:List AV) (H:Hp):Option (Bool×Ex×List AV×Hp):=
 match al T 0,al T 1,al T 2,al T 7,al T 9,al T 15,al T 157,al T 158,al T 159,H with
 | .sl false 129 0 0 S, .lst false 129 I j, .val (.int .i64 i), .val (.int .i64 k), .val (.int .u64 g), .val (.int .u32 s), .lst false 129 J G, .val (.int .i64 n), .val (.int .i64 N), [.row (.ints .u32 M) 129 .live, .row (.ints .u32 qs) 129 .live]=>bif T.length==194 then some (okB I j&&okB J G&&decide (S=M.length)&&U M (rowOf I j) i k g s (rowOf J G) n N qs, .exit 4,iO ((O M (rowOf I j) i k g s (rowOf J G) n N qs).1) (rowOf I j) i k g ((O M (rowOf I j) i k g s (rowOf J G) n N qs).2.1) (rowOf J G) n ((O M (rowOf I j) i k g s (rowOf J G) n N qs).2.2) qs,ir ((O M (rowOf I j) i k g s (rowOf J G) n N qs).1) (rowOf I j) i k g ((O M (rowOf I j) i k g s (rowOf J G) n N qs).2.1) (rowOf J G) n ((O M (rowOf I j) i k g s (rowOf J G) n N qs).2.2) qs) else none
 | _,_,_,_,_,_,_,_,_,_=>none
abbrev Au:Type:=List Int→List Int→Int→Int→Int→Int→List Int→Int→Int→List Int→Bool
abbrev Ab:Type:=List Int→List Int→Int→Int→Int→Int→List Int→Int→Int→List Int→List Int×Int×Int
def IS (j:Au) (G:Ab) (L:aE):aE:=bp 2 172 fJ [0,1,2,7,9,15,157,158,159] (FR j G) L
def iI (I:List Int) (vs:List Int) (i:Int) (k:Int) (g:Int) (s:Int) (j:List Int) (n:Int) (G:Int) (qs:List Int):List Int×Int×Int:=Classical.epsilon fun ρ=>bQ Tryz.prog 2 (lb 172 fJ) (iO I vs i k g s j n G qs) (ir I vs i k g s j n G qs) (.exit 4) (iO (ρ.1) vs i k g (ρ.2.1) j n (ρ.2.2) qs) (ir (ρ.1) vs i k g (ρ.2.1) j n (ρ.2.2) qs)∧ym I vs i k g s j n G qs ρ
theorem Ma (I:List Int) (vs:List Int) (i:Int) (k:Int) (g:Int) (s:Int) (j:List Int) (n:Int) (G:Int) (qs:List Int) (h:tT I vs i k g s j n G qs):bQ Tryz.prog 2 (lb 172 fJ) (iO I vs i k g s j n G qs) (ir I vs i k g s j n G qs) (.exit 4) (iO ((iI I vs i k g s j n G qs).1) vs i k g ((iI I vs i k g s j n G qs).2.1) j n ((iI I vs i k g s j n G qs).2.2) qs) (ir ((iI I vs i k g s j n G qs).1) vs i k g ((iI I vs i k g s j n G qs).2.1) j n ((iI I vs i k g s j n G qs).2.2) qs)∧ym I vs i k g s j n G qs (iI I vs i k g s j n G qs):=Classical.epsilon_spec (XD I vs i k g s j n G qs h)
def qc (G:List Int) (vs:List Int) (i:Int) (k:Int) (g:Int) (s:Int) (I:List Int) (n:Int) (j:Int) (qs:List Int):Bool:= @decide (tT G vs i k g s I n j qs) (Classical.propDecidable _)
theorem TD (G:List Int) (vs:List Int) (i:Int) (k:Int) (g:Int) (s:Int) (I:List Int) (n:Int) (j:Int) (qs:List Int) (h:tT G vs i k g s I n j qs):qc G vs i k g s I n j qs=true:= @decide_eq_true _ (Classical.propDecidable _) h
theorem ac6 (T:List AV) (H:Hp) (e:Ex) (I:List AV) (G:Hp) (h:FR qc iI T H=some (true,e,I,G)):V.Ends Tryz.prog false 2 0 (.loop (lb 172 fJ)) T H e I G:=by
 unfold FR at h
 split at h
 ·rename_i b4 b1 N i k g s b2 O n a6 b3 qs S U a2 a3 a4 Z ab a0 a1
  rw [Bool.cond_eq_ite] at h
  split at h
  ·rename_i J
   rw [beq_iff_eq] at J
   simp only [Option.some.injEq,Prod.mk.injEq,Bool.and_eq_true,decide_eq_true_eq] at h
   obtain ⟨⟨⟨⟨k1,a7⟩,bx⟩,bD⟩,rfl,rfl,rfl⟩:=h
   have b0:= @of_decide_eq_true _ (Classical.propDecidable _) bD
   refine Ends.pre (Ma b3 (rowOf b1 N) i k g s (rowOf b2 O) n a6 qs b0).1.ends (fun α B w D b5 a5=>bm J (fun p M y j=> ?_) a5)
   simp only [List.mem_cons,List.not_mem_nil,or_false] at M
   rcases M with rfl | rfl | rfl | rfl | rfl | rfl | rfl | rfl | rfl
   ·rw [S] at j;rw [← bx];exact j
   ·rw [U] at j;rw [cc];exact cn bZ k1 j
   ·rw [a2] at j;exact j
   ·rw [a3] at j;exact j
   ·rw [a4] at j;exact j
   ·rw [Z] at j;exact j
   ·rw [ab] at j;rw [cc];exact cn bZ a7 j
   ·rw [a0] at j;exact j
   ·rw [a1] at j;exact j
  ·cases h
 ·cases h
theorem P0 {L:aE} (h:aB Tryz.prog L):aB Tryz.prog (IS qc iI L):=h.br Q6 ac6
end
end Go.Proofs.YtamcpiicmfielaaGreat.L
namespace Go.Proofs.YtamcpiicmfielaaGreat.L
open Go Go.V Go.RowKit Go.Proofs.YtamcpiicmfielaaGreat.Sp Go.Proofs.YtamcpiicmfielaaGreat.F Go.Proofs.YtamcpiicmfielaaGreatW.PrintWords
open Go.Proofs (Tryz.prog)
noncomputable section
def zZ (j:Aw) (J:Ad) (G:Ax) (M:Ae) (I:Au) (N:Ab):Env:= ⟨an 154 zp aF,ar,IV j J (IX G M (IS I N aq))⟩
abbrev dS:List Bool:= [false,true,false,true,true,true,true,true,true]
def ej (j:Int) (G:List Int) (vs:List Int) (qs:List Int) (i:Int):List AV:=av 73 [(8, .val (.int .i64 j)),(9, .sl false 129 0 0 G.length),(10, .lst false 129 vs.length (ai vs)),(11, .sl false 129 1 0 qs.length),(12, .val (.int .i64 i))]
def dJ (G:Int) (j:List Int) (vs:List Int) (qs:List Int) (i:Int):Hp:= [.row (.ints .u32 j) 129 .live, .row (.ints .u32 qs) 129 .live]
theorem Rb:aJ Tryz.prog 152 dS=some (.loop (lb 152 dS)):=by kernel_rfl
theorem SM:aJ Tryz.prog 152 (false :: dS)=some (lb 152 dS):=by kernel_rfl
theorem M7 (a3:Aw) (a6:Ad) (a4:Ax) (a7:Ae) (a5:Au) (bx:Ab) (Z:Int) (j:List Int) (vs:List Int) (qs:List Int) (i:Int):letI M:=(rowOf vs.length (ai vs));letI G:=(rowOf M.length (ai M));letI J:=(i+(↑vs.length:Int));letI N:=((0:Nat)+J.toNat*(1:Nat));letI a0:=(i+(↑vs.length:Int) - (1:Int));letI a1:=(bV BinOp.or IntKind.u64 (IntKind.u64.wrap (j.getD N (0:Int)*(4294967296:Int))) (j.getD ((0:Nat)+a0.toNat*(1:Nat)) (0:Int)));letI ab:=((↑vs.length:Int) - (1:Int));letI U:=(vs.getD ab.toNat (0:Int));letI S:=(a6 j M i (↑vs.length:Int) (IntKind.u64.wrap (a1.tdiv U)) (a1.tmod U) qs);letI I:=(a7 j G i (↑vs.length:Int) S.fst (0:Int) (0:Int) G (↑M.length:Int) (0:Int) qs);letI a2:=(I.fst.set N ((I.fst.getD N (0:Int)+(8589934592:Int) - IntKind.u32.wrap I.snd.fst - I.snd.snd.fst) % (4294967296:Int)));letI O:=(bx a2 (rowOf G.length (ai G)) i (↑vs.length:Int) S.fst (0:Int) (rowOf G.length (ai G)) (↑G.length:Int) (0:Int) qs);
  (aN Tryz.prog (zZ a3 a6 a4 a7 a5 bx) 152 [8,9,10,11,12] (lb 152 dS) (false :: dS) (ej Z j vs qs i) (dJ Z j vs qs i)=(bif decide ((0:Int)≤i) then (bif decide ((0:Nat)+j.length*(1:Nat)≤j.length) then (bif aj IntKind.i64 J then (bif decide ((0:Int)≤i+(↑vs.length:Int))&&decide (i+(↑vs.length:Int) < (↑j.length:Int)) then (bif decide ((0:Nat)+J.toNat*(1:Nat) < j.length) then (bif aj IntKind.u64 (j.getD N (0:Int)) then (bif aj IntKind.i64 J then (bif aj IntKind.i64 a0 then (bif decide ((0:Int)≤i+(↑vs.length:Int) - (1:Int))&&decide (i+(↑vs.length:Int) - (1:Int) < (↑j.length:Int)) then (bif decide ((0:Nat)+a0.toNat*(1:Nat) < j.length) then (bif aj IntKind.u64 (j.getD ((0:Nat)+a0.toNat*(1:Nat)) (0:Int)) then (bif aj IntKind.i64 ab then (bif decide ((0:Int)≤(↑vs.length:Int) - (1:Int))&&decide ((↑vs.length:Int) - (1:Int) < (↑vs.length:Int)) then (bif aj IntKind.u64 U then (bif decide (vs.getD ab.toNat (0:Int)=(0:Int)) then none else (bif aj IntKind.i64 ab then (bif decide ((0:Int)≤(↑vs.length:Int) - (1:Int))&&decide ((↑vs.length:Int) - (1:Int) < (↑vs.length:Int)) then (bif aj IntKind.u64 U then (bif decide (vs.getD ab.toNat (0:Int)=(0:Int)) then none else (bif okB vs.length (ai vs)&&decide (j.length=j.length)&&a3 j M i (↑vs.length:Int) (IntKind.u64.wrap (a1.tdiv U)) (a1.tmod U) qs then (bif okB M.length (ai M)&&okB M.length (ai M)&&decide (j.length=j.length)&&a4 j G i (↑vs.length:Int) S.fst (0:Int) (0:Int) G (↑M.length:Int) (0:Int) qs then (bif aj IntKind.i64 J then (bif aj IntKind.i64 J then (bif decide ((0:Int)≤i+(↑vs.length:Int))&&decide (i+(↑vs.length:Int) < (↑I.fst.length:Int)) then (bif decide ((0:Nat)+J.toNat*(1:Nat) < I.fst.length) then (bif bS (I.fst.getD N (0:Int))&&bS (IntKind.u32.wrap I.snd.fst)&&decide ((0:Int)≤I.snd.snd.fst)&&decide (I.snd.snd.fst≤(1:Int)) then (bif decide ((0:Int)≤i+(↑vs.length:Int))&&decide (i+(↑vs.length:Int) < (↑I.fst.length:Int)) then (bif decide ((0:Nat)+J.toNat*(1:Nat) < I.fst.length) then (bif decide ((if I.fst.getD N (0:Int) < IntKind.u32.wrap I.snd.fst+I.snd.snd.fst then (1:Int) else (0:Int))=(0:Int)) then (bif decide ((0:Int)≤i)&&decide (i < (↑qs.length:Int)) then (bif decide ((0:Nat)+i.toNat*(1:Nat) < qs.length) then (bif aj IntKind.i64 (i - (1:Int)) then some (.normal,av 73 [(8,(.val (.int .i64 Z))),(9,(.sl false 129 0 0 j.length)),(10,(.lst false 129 vs.length (ai vs))),(11,(.sl false 129 1 0 qs.length)),(12,(.val (.int .i64 (i - (1:Int)))))], [(.row (.ints .u32 a2) 129 .live),(.row (.ints .u32 (qs.set ((0:Nat)+i.toNat*(1:Nat)) (IntKind.u32.wrap S.fst))) 129 .live)]) else none) else none) else none) else (bif okB G.length (ai G)&&okB G.length (ai G)&&decide (I.fst.length=a2.length)&&a5 a2 (rowOf G.length (ai G)) i (↑vs.length:Int) S.fst (0:Int) (rowOf G.length (ai G)) (↑G.length:Int) (0:Int) qs then (bif aj IntKind.i64 J then (bif decide ((0:Int)≤i+(↑vs.length:Int))&&decide (i+(↑vs.length:Int) < (↑O.fst.length:Int)) then (bif decide ((0:Nat)+J.toNat*(1:Nat) < O.fst.length) then (bif decide ((0:Int)≤i+(↑vs.length:Int))&&decide (i+(↑vs.length:Int) < (↑O.fst.length:Int)) then (bif decide ((0:Nat)+J.toNat*(1:Nat) < O.fst.length) then (bif decide ((0:Int)≤i)&&decide (i < (↑qs.length:Int)) then (bif decide ((0:Nat)+i.toNat*(1:Nat) < qs.length) then (bif aj IntKind.i64 (i - (1:Int)) then some (.normal,av 73 [(8,(.val (.int .i64 Z))),(9,(.sl false 129 0 0 j.length)),(10,(.lst false 129 vs.length (ai vs))),(11,(.sl false 129 1 0 qs.length)),(12,(.val (.int .i64 (i - (1:Int)))))], [(.row (.ints .u32 (O.fst.set N (IntKind.u32.wrap (O.fst.getD N (0:Int)+O.snd.fst)))) 129 .live),(.row (.ints .u32 (qs.set ((0:Nat)+i.toNat*(1:Nat)) (IntKind.u32.wrap (IntKind.u64.wrap (S.fst - (1:Int)))))) 129 .live)]) else none) else none) else none) else none) else none) else none) else none) else none) else none)) else none) else none) else none) else none) else none) else none) else none) else none) else none)) else none) else none) else none)) else none) else none) else none) else none) else none) else none) else none) else none) else none) else none) else none) else none) else none) else some ((.exit 0),av 73 [(8,(.val (.int .i64 Z))),(9,(.sl false 129 0 0 j.length)),(10,(.lst false 129 vs.length (ai vs))),(11,(.sl false 129 1 0 qs.length)),(12,(.val (.int .i64 i)))], [(.row (.ints .u32 j) 129 .live),(.row (.ints .u32 qs) 129 .live)]))):=by kernel_rfl
theorem E4 {j:Int} {G:List Int} {vs:List Int} {qs:List Int} {i:Int} {e:Ex} {T:List AV} {H:Hp} (h:aN Tryz.prog (zZ qg lN qh gm qc iI) 152 [8,9,10,11,12] (lb 152 dS) (false :: dS) (ej j G vs qs i) (dJ j G vs qs i)=some (e,T,H)):V.Ends Tryz.prog false 0 0 (lb 152 dS) (ej j G vs qs i) (dJ j G vs qs i) e T H:=
 bw ((aH _).add Km) (P8 (Qi (P0 aB.none))).ok mixed SM h
theorem WK {u w:List Int} {n:Nat} (h:u.drop n=w.drop n):u.getD n 0=w.getD n 0:=by
 have:=congrArg (fun l=>l[0]?) h
 simp only [List.getElem?_drop,Nat.add_zero] at this
 rw [List.getD_eq_getElem?_getD,List.getD_eq_getElem?_getD,this]
theorem UD (S:Int) (j vs qs:List Int) (i:Nat) (b1:aI j) (a6:aI vs) (hG:2≤vs.length) (a5:i+vs.length < j.length) (b4:j.length≤17592186044416) (M:Nat) (h5:M < 4294967296) (hN:2147483648≤M) (eb:vs.getD (vs.length - 1) 0=(M:Int)) (a0:vL j < 4294967296 ^ (i+1)*vL vs) (hF:i < qs.length):
  ∃ (q:Nat) (a3:List Int),q < 4294967296∧aI a3∧a3.length=j.length∧vL a3+4294967296 ^ i*(q*vL vs)=vL j∧vL a3 < 4294967296 ^ i*vL vs∧
   V.Ends Tryz.prog false 0 0 (lb 152 dS) (ej S j vs qs i) (dJ S j vs qs i) .normal (ej S a3 vs (qs.set i (q:Int)) ((i:Int) - 1)) (dJ S a3 vs (qs.set i (q:Int)) ((i:Int) - 1)):=by
 have hL:i+vs.length < j.length:=a5
 have hM:i+vs.length - 1 < j.length:=by omega
 have ch:i+vs.length+1≤j.length:=by omega
 obtain ⟨G,e1,hX,c7⟩:=cu b1 _ hL
 obtain ⟨O,hR,hY,e4⟩:=cu b1 _ hM
 have hK:G*4294967296+O < 18446744073709551616:=by omega
 have bx:=dD a6
 have e3:vL (j.drop (i+vs.length+1))=0:=by
  refine Pd _ ch (Nat.lt_of_lt_of_le a0 ?_)
  rw [show i+vs.length+1=(i+1)+vs.length by omega,Nat.pow_add 4294967296 (i+1) vs.length]
  exact Nat.mul_le_mul_left _ (Nat.le_of_lt bx)
 have a4:0 < 4294967296 ^ i*vL vs:=by
  rcases Nat.eq_zero_or_pos (vL vs) with h | h
  ·rw [h,Nat.mul_zero] at a0;omega
  ·exact Nat.mul_pos (Nat.pow_pos (by decide)) h
 have b0:vL j / (4294967296 ^ i*vL vs)*(4294967296 ^ i*vL vs)≤vL j:=Nat.div_mul_le_self _ _
 have a1:vL j < (vL j / (4294967296 ^ i*vL vs)+1)*(4294967296 ^ i*vL vs):=by
  rw [Nat.add_mul,Nat.one_mul]
  exact Nat.lt_div_mul_add a4
 have eN:vL j / (4294967296 ^ i*vL vs) < 4294967296:=by
  rw [Nat.div_lt_iff_lt_mul a4,← Nat.mul_assoc,Nat.mul_comm 4294967296,← Nat.pow_succ]
  exact a0
 have eu:ue j vs i vs.length ((G*4294967296+O) / M:Nat) ((G*4294967296+O) % M:Nat) qs:= ⟨i,G,O,M,rfl,rfl,b1,a6,hG,a5,b4,eb,hN,a0,c7,e4,rfl,rfl⟩
 obtain ⟨_,g,g0,bD,b6,b7⟩:=Mi _ _ _ _ _ _ _ eu
 unfold xq at bD b6
 rw [Int.toNat_natCast] at bD b6
 generalize h4:vL j / (4294967296 ^ i*vL vs)=q at*
 have k1:=TN _ _ _ _ _ _ _ eu
 have ev:ur j vs i vs.length g 0 0 vs vs.length 0 qs:= ⟨i,g,rfl,rfl,b7,b1,a6,b4,a5,rfl,rfl,rfl,rfl⟩
 obtain ⟨_,c,b,dy,dx,eh,h0,ec,ed,a7,Z⟩:=Mp _ _ _ _ _ _ _ _ _ _ _ ev
 have hT:=TW _ _ _ _ _ _ _ _ _ _ _ ev
 rw [Int.toNat_natCast] at a7 Z
 rw [Int.toNat_natCast] at Z
 have J:=M7 qg lN qh gm qc iI S j vs qs i
 have ho:(i:Int)+(vs.length:Int)=((i+vs.length:Nat):Int):=by omega
 have hq:((i+vs.length:Nat):Int) - 1=((i+vs.length - 1:Nat):Int):=by omega
 have hr:(vs.length:Int) - 1=((vs.length - 1:Nat):Int):=by omega
 simp only [jZ,ho,hq,hr,Int.toNat_natCast,Nat.zero_add,Nat.mul_one,c7,e4,eb,xS G O e1 hR,
  show Int.tdiv ((G*4294967296+O:Nat):Int) (M:Int)=(((G*4294967296+O) / M:Nat):Int) from rfl,show Int.tmod ((G*4294967296+O:Nat):Int) (M:Int)=(((G*4294967296+O) % M:Nat):Int) from rfl,eF (a:=(G*4294967296+O) / M) (Nat.lt_of_le_of_lt (Nat.div_le_self _ _) hK),k1,g0,hT,dy,dx] at J
 generalize gm j vs i vs.length g 0 0 vs vs.length 0 qs=ρ at*
 obtain ⟨I,h8⟩:=ρ
 simp only at ec ed a7 Z J dy dx
 have c0:i+vs.length < I.length:=by omega
 have c8:I.getD (i+vs.length) 0=(G:Int):=by rw [WK a7];exact c7
 have hv:I[i+vs.length]=(G:Int):=by
  rw [List.getD_eq_getElem?_getD,List.getElem?_eq_getElem c0,Option.getD_some] at c8
  exact c8
 have hz:(G+8589934592 - c - b) % 4294967296+c+b=G+4294967296*(if G < c+b then 1 else 0):=by
  clear Z a0 b0 a1 a4 bx J
  split <;> omega
 have ht:((G:Int)+8589934592 - (c:Int) - (b:Int)) % 4294967296=(((G+8589934592 - c - b) % 4294967296:Nat):Int):=by
  clear Z a0 b0 a1 a4 bx J
  omega
 have hA:(G+8589934592 - c - b) % 4294967296 < 4294967296:=Nat.mod_lt _ (by decide)
 have e6:decide ((0:Int)≤(i:Int))=true:=dT (by omega)
 have g3:decide (j.length≤j.length)=true:=dT (by omega)
 have hg:aj .i64 ((i+vs.length:Nat):Int)=true:=bz _ (by omega)
 have hh:decide ((0:Int)≤((i+vs.length:Nat):Int))=true:=dT (by omega)
 have hi:decide (((i+vs.length:Nat):Int) < (j.length:Int))=true:=dT (by omega)
 have hj:decide (i+vs.length < j.length)=true:=dT (by omega)
 have hk:aj .u64 (G:Int)=true:=cT (by omega)
 have hl:aj .i64 ((i+vs.length - 1:Nat):Int)=true:=bz _ (by omega)
 have hn:decide ((0:Int)≤((i+vs.length - 1:Nat):Int))=true:=dT (by omega)
 have e7:decide (((i+vs.length - 1:Nat):Int) < (j.length:Int))=true:=dT (by omega)
 have fa:decide (i+vs.length - 1 < j.length)=true:=dT (by omega)
 have fc:aj .u64 (O:Int)=true:=cT (by omega)
 have fh:aj .i64 ((vs.length - 1:Nat):Int)=true:=bz _ (by omega)
 have fs:decide ((0:Int)≤((vs.length - 1:Nat):Int))=true:=dT (by omega)
 have fv:decide (((vs.length - 1:Nat):Int) < (vs.length:Int))=true:=dT (by omega)
 have gf:aj .u64 (M:Int)=true:=cT (by omega)
 have gn:decide ((M:Int)=0)=false:=dF (by omega)
 have g1:decide (j.length=j.length)=true:=dT rfl
 have g2:decide (((i+vs.length:Nat):Int) < (I.length:Int))=true:=dT (by omega)
 have g4:decide (i+vs.length < I.length)=true:=dT c0
 have g5:bS (G:Int)=true:=e9 e1
 have g6:IntKind.u32.wrap (c:Int)=(c:Int):=by rw [dm,Nat.mod_eq_of_lt eh]
 have g7:bS (c:Int)=true:=e9 eh
 have g8:decide ((0:Int)≤(b:Int))=true:=dT (by omega)
 have ha:decide ((b:Int)≤1)=true:=dT (by omega)
 have hb:decide ((i:Int) < (qs.length:Int))=true:=dT (by omega)
 have hc:decide (i < qs.length)=true:=dT hF
 have hd:aj .i64 ((i:Int) - 1)=true:=aO (by omega)
 have hf:okB vs.length (ai vs)=true:=iH a6
 simp only [e6,g3,hg,hh,hi,hj,hk,hl,hn,e7,fa,fc,fh,fs,fv,gf,gn,g1,g2,g4,c8,g5,g6,g7,g8,ha,hb,hc,hd,hf,ht] at J
 clear e6 g3 hg hh hi hj hk hl hn e7 fa fc fh fs fv gf gn g1 g2 g4 g5 g6 g7 g8 ha hb hc hd hf
 generalize eo:(if G < c+b then 1 else 0:Nat)=b2 at*
 generalize h1:(G+8589934592 - c - b) % 4294967296=D at*
 have ct:=n7 I (i+vs.length) c0 (D:Int)
 rw [hv,Int.toNat_natCast,Int.toNat_natCast] at ct
 have U:=acZ (T:=0) Z ct hz
 have c2:aI (I.set (i+vs.length) (D:Int)):=fg ec _ _ (Int.natCast_nonneg _) (Int.ofNat_lt.2 hA)
 have a2:(I.set (i+vs.length) (D:Int)).length=j.length:=by rw [List.length_set];exact ed
 have hB:∀ w:List Int,w.drop (i+vs.length)=j.drop (i+vs.length)→w.drop (i+vs.length+1)=j.drop (i+vs.length+1):=by
  intro w hO
  have:=congrArg (fun l=>l.drop 1) hO
  simpa [List.drop_drop] using this
 have e2:(I.set (i+vs.length) (D:Int)).drop (i+vs.length+1)=j.drop (i+vs.length+1):=by
  rw [List.drop_set_of_lt (by omega)]
  exact hB _ a7
 have hS:vL (I.set (i+vs.length) (D:Int)) < 4294967296 ^ (i+vs.length+1):=Pe c2 _ (by rw [a2];exact ch) (by rw [e2];exact e3)
 have b3:∀ z:Nat,4294967296 ^ i*(z*vL vs)=z*(4294967296 ^ i*vL vs):=fun z=>by rw [Nat.mul_left_comm]
 have ez:4294967296 ^ (i+vs.length)*4294967296=4294967296 ^ (i+vs.length+1):=(Nat.pow_succ ..).symm
 rw [b3,ez] at U
 have hs:(if (G:Int) < (c:Int)+(b:Int) then (1:Int) else 0)=(b2:Int):=by
  rw [← eo]
  clear Z a0 b0 a1 a4 bx J U ct
  split <;> split <;> omega
 have ab:b2=0∨b2=1:=by
  rw [← eo]
  by_cases h:G < c+b
  ·right;rw [if_pos h]
  ·left;rw [if_neg h]
 simp only [hs] at J
 rcases ab with ab | ab
 ·-- the guess was right
  rw [ab,Nat.mul_zero,Nat.add_zero] at U
  have b8:=Wt U a1 bD
  refine ⟨g,I.set (i+vs.length) (D:Int),b7,c2,a2,by rw [b3];exact U, ?_,E4 ?_⟩
  ·rw [Nat.add_mul,Nat.one_mul] at a1
   rw [← b8] at a1
   omega
  ·rw [ab] at J
   rw [show IntKind.u32.wrap (g:Int)=(g:Int) by rw [dm,Nat.mod_eq_of_lt b7],dT (show ((0:Nat):Int)=0 from rfl)] at J
   rw [J]
   unfold ej dJ
   rw [a2,List.length_set]
   rfl
 ·-- the guess was one too great
  rw [ab,Nat.mul_one] at U
  have b8:=Wu U hS b0 bD b6
  have ey:tT (I.set (i+vs.length) (D:Int)) vs i vs.length g 0 vs vs.length 0 qs:= ⟨i,rfl,c2,a6,by rw [a2];exact b4,by rw [a2];exact a5,rfl,rfl,rfl⟩
  obtain ⟨_,s,e5,h7,c3,c4,c5,c6⟩:=Ma _ _ _ _ _ _ _ _ _ _ ey
  have hU:=TD _ _ _ _ _ _ _ _ _ _ ey
  rw [Int.toNat_natCast] at c5 c6
  rw [ab] at J
  rw [dF (show ¬ ((1:Nat):Int)=0 by omega),hU,e5] at J
  generalize iI (I.set (i+vs.length) (D:Int)) vs i vs.length g 0 vs vs.length 0 qs=hW at*
  obtain ⟨N,h9⟩:=hW
  simp only at c3 c4 c5 c6 J e5
  have c1:i+vs.length < N.length:=by rw [c4,a2];exact a5
  obtain ⟨z,h6,hx,hV⟩:=cu c3 _ c1
  have hJ:=n7 N (i+vs.length) c1 (((z+s) % 4294967296:Nat):Int)
  rw [hx,Int.toNat_natCast,Int.toNat_natCast] at hJ
  have hI:(z+s) % 4294967296 < 4294967296:=Nat.mod_lt _ (by decide)
  have ep:aI (N.set (i+vs.length) (((z+s) % 4294967296:Nat):Int)):=fg c3 _ _ (Int.natCast_nonneg _) (Int.ofNat_lt.2 hI)
  have b5:(N.set (i+vs.length) (((z+s) % 4294967296:Nat):Int)).length=j.length:=by rw [List.length_set,c4,a2]
  have h2:vL (N.set (i+vs.length) (((z+s) % 4294967296:Nat):Int)) < 4294967296 ^ (i+vs.length+1):=by
   refine Pe ep _ (by rw [b5];exact ch) ?_
   rw [List.drop_set_of_lt (by omega)]
   have:=congrArg (fun l=>l.drop 1) c5
   simp only [List.drop_drop] at this
   rw [this,e2]
   exact e3
  have h3:(z+s) / 4294967296≤1:=by omega
  have hH:=Nat.mod_add_div (z+s) 4294967296
  have e0:vL (N.set (i+vs.length) (((z+s) % 4294967296:Nat):Int))+4294967296 ^ (i+vs.length+1)*((z+s) / 4294967296)=vL (I.set (i+vs.length) (D:Int))+4294967296 ^ i*vL vs:=by
   rw [← c6,← ez]
   have en:=congrArg (4294967296 ^ (i+vs.length)* ·) hH
   simp only [Nat.mul_add] at en
   rw [← Nat.mul_assoc] at en
   omega
  have hQ:IntKind.u32.wrap ((z:Int)+(s:Int))=(((z+s) % 4294967296:Nat):Int):=by rw [← Int.natCast_add,dm]
  have hP:IntKind.u32.wrap (IntKind.u64.wrap ((g:Int) - 1))=(q:Int):=by
   have:IntKind.u64.wrap ((g:Int) - 1)=((q:Nat):Int):=(GP (by omega) (by omega)).trans (by omega)
   rw [this,dm,Nat.mod_eq_of_lt eN]
  have hD:aN Tryz.prog (zZ qg lN qh gm qc iI) 152 [8,9,10,11,12] (lb 152 dS) (false :: dS) (ej S j vs qs i) (dJ S j vs qs i)=some (.normal,ej S (N.set (i+vs.length) (((z+s) % 4294967296:Nat):Int)) vs (qs.set i (q:Int)) ((i:Int) - 1),dJ S (N.set (i+vs.length) (((z+s) % 4294967296:Nat):Int)) vs (qs.set i (q:Int)) ((i:Int) - 1)):=by
   rw [List.length_set,dT (show I.length=I.length from rfl),dT (show ((i+vs.length:Nat):Int) < (N.length:Int) by omega),dT c1,hV,hQ,hP] at J
   rw [J]
   unfold ej dJ
   rw [b5,List.length_set]
   rfl
  generalize et:vL (N.set (i+vs.length) (((z+s) % 4294967296:Nat):Int))=hy at*
  generalize (z+s) / 4294967296=o at*
  have hE:hy+q*(4294967296 ^ i*vL vs)=vL j:=by
   rw [b8,Nat.add_mul,Nat.one_mul] at U
   rcases (show o=0∨o=1 by omega) with h | h
   ·rw [h,Nat.mul_zero,Nat.add_zero] at e0
    omega
   ·rw [h,Nat.mul_one] at e0
    omega
  refine ⟨q,N.set (i+vs.length) (((z+s) % 4294967296:Nat):Int),eN,ep,b5,by rw [b3,et];exact hE, ?_,E4 hD⟩
  rw [et]
  rw [Nat.add_mul,Nat.one_mul] at a1
  omega
def tY (I:Int) (j vs qs:List Int) (i:Int):Prop:=∃ G:Nat,aI j∧aI vs∧aI qs∧2≤vs.length∧j.length≤17592186044416∧G < 4294967296∧2147483648≤G∧vs.getD (vs.length - 1) 0=G∧qs.length+vs.length=j.length∧vL j < 4294967296 ^ qs.length*vL vs∧i=(qs.length:Int) - 1
def De (G:Int) (j vs qs:List Int) (i:Int) (r:List Int×List Int×Int):Prop:=aI r.1∧aI r.2.1∧r.1.length=j.length∧r.2.1.length=qs.length∧vL r.2.1=vL j / vL vs∧vL r.1=vL j % vL vs
theorem Vh (J:Int) (vs:List Int) (b3:aI vs) (b2:2≤vs.length) (N:Nat) (b4:N < 4294967296) (b5:2147483648≤N) (a3:vs.getD (vs.length - 1) 0=(N:Int)) (L:Nat) (ch:L≤17592186044416) (A M:Nat) (d:Nat):
  ∀ (j qs:List Int),aI j→aI qs→j.length=L→qs.length=M→M+vs.length=L→d≤M→vL j < 4294967296 ^ d*vL vs→dE (vL j+4294967296 ^ d*vL (qs.drop d)*vL vs=A)→
  ∃ r:List Int×List Int×Int,aw Tryz.prog (lb 152 dS) (ej J j vs qs ((d:Int) - 1)) (dJ J j vs qs ((d:Int) - 1)) (.exit 0) (ej J r.1 vs r.2.1 r.2.2) (dJ J r.1 vs r.2.1 r.2.2)∧aI r.1∧aI r.2.1∧r.1.length=L∧r.2.1.length=M∧vL r.2.1=A / vL vs∧vL r.1=A % vL vs:=by
 induction d with
 | zero=>
  intro j qs Z S a0 U ab b1 I O
  have G:=O.out
  rw [Nat.pow_zero,Nat.one_mul] at I
  rw [Nat.pow_zero,Nat.one_mul,List.drop_zero,Nat.mul_comm] at G
  have a1:A / vL vs=vL qs:=by rw [← G,Nat.add_comm,Nat.mul_add_div (by omega),Nat.div_eq_of_lt I];simp
  have a2:A % vL vs=vL j:=by rw [← G,Nat.add_comm,Nat.mul_add_mod,Nat.mod_eq_of_lt I]
  refine ⟨(j,qs,((0:Nat):Int) - 1), .last (E4 ?_) (by intro h;cases h),Z,S,a0,U,a1.symm,a2.symm⟩
  rw [M7]
  rfl
 | succ d b6=>
  intro j qs Z S a0 U ab b1 I O
  obtain ⟨g,b7,a4,a5,b8,a6,a7,bx⟩:=UD J j vs qs d Z b3 b2 (by omega) (by omega) N b4 b5 a3 I (by omega)
  obtain ⟨r,bD,b0⟩:=b6 b7 (qs.set d (g:Int)) a5 (fg S _ _ (Int.natCast_nonneg _) (Int.ofNat_lt.2 a4)) (by omega) (by rw [List.length_set];exact U) ab (by omega) a7 (by
   constructor
   have G:=O.out
   rw [← G,← a6,List.drop_eq_getElem_cons (l:=qs.set d _) (by rw [List.length_set];omega),List.getElem_set_self,List.drop_set_of_lt (by omega),bU,Int.toNat_natCast,Nat.pow_succ]
   grind)
  refine ⟨r, ?_,b0⟩
  rw [show ((d+1:Nat):Int) - 1=(d:Int) by omega]
  exact .more bx bD
theorem XI (j:Int) (G vs qs:List Int) (i:Int) (h:tY j G vs qs i):∃ r:List Int×List Int×Int,aw Tryz.prog (lb 152 dS) (ej j G vs qs i) (dJ j G vs qs i) (.exit 0) (ej j r.1 vs r.2.1 r.2.2) (dJ j r.1 vs r.2.1 r.2.2)∧De j G vs qs i r:=by
 obtain ⟨a1,U,Z,S,M,J,ab,a0,I,N,O,rfl⟩:=h
 exact Vh j vs Z M a1 ab a0 I G.length J (vL G) qs.length qs.length G qs U S rfl rfl N (Nat.le_refl _) O ⟨by rw [List.drop_of_length_le (Nat.le_refl _),cp,Nat.mul_zero,Nat.zero_mul];rfl⟩
def FX (S:Int→List Int→List Int→List Int→Int→Bool) (M:Int→List Int→List Int→List Int→Int→List Int×List Int×Int) (T:List AV) (H:Hp):Option (Bool×Ex×List AV×Hp):=
 match al T 8,al T 9,al T 10,al T 11,al T 12,H with
 | .val (.int .i64 I), .sl false 129 0 0 O, .lst false 129 G j, .sl false 129 1 0 N, .val (.int .i64 i), [.row (.ints .u32 J) 129 .live, .row (.ints .u32 qs) 129 .live]=>bif T.length==73 then some (okB G j&&decide (O=J.length)&&decide (N=qs.length)&&S I J (rowOf G j) qs i, .exit 0,ej I ((M I J (rowOf G j) qs i).1) (rowOf G j) ((M I J (rowOf G j) qs i).2.1) ((M I J (rowOf G j) qs i).2.2),dJ I ((M I J (rowOf G j) qs i).1) (rowOf G j) ((M I J (rowOf G j) qs i).2.1) ((M I J (rowOf G j) qs i).2.2)) else none
 | _,_,_,_,_,_=>none
abbrev Av:Type:=Int→List Int→List Int→List Int→Int→Bool
abbrev Ac:Type:=Int→List Int→List Int→List Int→Int→List Int×List Int×Int
def IU (j:Av) (G:Ac) (L:aE):aE:=bp 0 152 dS [8,9,10,11,12] (FX j G) L
def kP (j:Int) (G:List Int) (vs:List Int) (qs:List Int) (i:Int):List Int×List Int×Int:=Classical.epsilon fun ρ=>aw Tryz.prog (lb 152 dS) (ej j G vs qs i) (dJ j G vs qs i) (.exit 0) (ej j (ρ.1) vs (ρ.2.1) (ρ.2.2)) (dJ j (ρ.1) vs (ρ.2.1) (ρ.2.2))∧De j G vs qs i ρ
theorem Mf (j:Int) (G:List Int) (vs:List Int) (qs:List Int) (i:Int) (h:tY j G vs qs i):aw Tryz.prog (lb 152 dS) (ej j G vs qs i) (dJ j G vs qs i) (.exit 0) (ej j ((kP j G vs qs i).1) vs ((kP j G vs qs i).2.1) ((kP j G vs qs i).2.2)) (dJ j ((kP j G vs qs i).1) vs ((kP j G vs qs i).2.1) ((kP j G vs qs i).2.2))∧De j G vs qs i (kP j G vs qs i):=Classical.epsilon_spec (XI j G vs qs i h)
def wU (j:Int) (G:List Int) (vs:List Int) (qs:List Int) (i:Int):Bool:= @decide (tY j G vs qs i) (Classical.propDecidable _)
theorem TJ (j:Int) (G:List Int) (vs:List Int) (qs:List Int) (i:Int) (h:tY j G vs qs i):wU j G vs qs i=true:= @decide_eq_true _ (Classical.propDecidable _) h
theorem adb (T:List AV) (H:Hp) (e:Ex) (I:List AV) (G:Hp) (h:FX wU kP T H=some (true,e,I,G)):V.Ends Tryz.prog false 0 0 (.loop (lb 152 dS)) T H e I G:=by
 unfold FX at h
 split at h
 ·rename_i a1 bD a6 N bx i a7 qs Z ab O S U
  rw [Bool.cond_eq_ite] at h
  split at h
  ·rename_i J
   rw [beq_iff_eq] at J
   simp only [Option.some.injEq,Prod.mk.injEq,Bool.and_eq_true,decide_eq_true_eq] at h
   obtain ⟨⟨⟨⟨k1,a2⟩,a3⟩,a4⟩,rfl,rfl,rfl⟩:=h
   have a5:= @of_decide_eq_true _ (Classical.propDecidable _) a4
   refine Ends.pre (Mf a1 a7 (rowOf a6 N) qs i a5).1.ends (fun α B w D b0 a0=>bm J (fun p M y j=> ?_) a0)
   simp only [List.mem_cons,List.not_mem_nil,or_false] at M
   rcases M with rfl | rfl | rfl | rfl | rfl
   ·rw [Z] at j;exact j
   ·rw [ab] at j;rw [← a2];exact j
   ·rw [O] at j;rw [cc];exact cn bZ k1 j
   ·rw [S] at j;rw [← a3];exact j
   ·rw [U] at j;exact j
  ·cases h
 ·cases h
theorem P4 {L:aE} (h:aB Tryz.prog L):aB Tryz.prog (IU wU kP L):=h.br Rb adb
end
end Go.Proofs.YtamcpiicmfielaaGreat.L
namespace Go.Proofs.YtamcpiicmfielaaGreat.L
open Go Go.V Go.RowKit Go.Proofs.YtamcpiicmfielaaGreat.Sp Go.Proofs.YtamcpiicmfielaaGreat.F Go.Proofs.YtamcpiicmfielaaGreatW.PrintWords
open Go.Proofs (Tryz.prog)
noncomputable section
def G1 (j:Sg):FuncId→List AV→Option (Bool×AV):=an 107 (vz j) (an 169 (FL j) (an 140 (zw j) (an 170 (Fx j) (an 158 (zx j) aF))))
theorem PC:bb Tryz.prog (G1 aa):=(((((aH _).add Kq).add Vs).add Kp).add V5).add BQ
def Hh (j:Sg) (G:AH) (M:Ao) (I:AI) (N:Ap) (J:Av) (O:Ac):Env:= ⟨G1 j,ar,I7 G M (I8 I N (IU J O aq))⟩
theorem BM (j:Sg) (a2:AH) (a5:Ao) (a3:AI) (a6:Ap) (a4:Av) (a7:Ac) (I G:List Int):letI O:=(↑(j.bl (G.getD ((↑G.length:Int) - (1:Int)).toNat (0:Int)).toNat):Int);letI a0:=((↑I.length:Int)+(1:Int));letI M:=(a5 ((32:Int) - O) (List.replicate a0.toNat (0:Int)) (rowOf I.length (ai I)) (↑I.length:Int) (0:Int));letI U:=((↑G.length:Int)+(1:Int));letI Z:=(a6 ((32:Int) - O) (List.replicate U.toNat (0:Int)) (rowOf G.length (ai G)) (↑G.length:Int) (0:Int) M.fst);letI N:=(j.num Z.fst.length (ai Z.fst));letI S:=((↑M.fst.length:Int) - (↑(j.len N):Int));letI J:=(a7 ((32:Int) - O) M.fst (rowOf (j.len N) (j.row N)) (List.replicate S.toNat (0:Int)) ((↑S.toNat:Int) - (1:Int)));letI ab:=(j.num J.fst.length (ai J.fst));letI a1:=(ai [(↑(j.num I.length (ai I) % (G.getD (0:Nat) (0:Int)).toNat):Int)]);
  (aD Tryz.prog (Hh j a2 a5 a3 a6 a4 a7) 10 10 152 [.lst false 129 I.length (ai I), .lst false 129 G.length (ai G)]=(bif j.can I.length (ai I)&&j.can G.length (ai G) then (bif decide (j.cmp (j.num I.length (ai I)) (j.num G.length (ai G)) < (0:Int)) then some (.tup [(.val (.slice .none 0 0)),(.lst false 129 I.length (ai I))]) else (bif decide ((↑G.length:Int)=(1:Int)) then (bif decide ((0:Int) < (↑G.length:Int)) then (bif j.bL I.length (ai I)&&bS (G.getD (0:Nat) (0:Int))&&decide ((0:Int) < G.getD (0:Nat) (0:Int)) then (bif j.bL (1:Nat) a1 then some (.tup [(.lst false 129 (j.len (j.num I.length (ai I) / (G.getD (0:Nat) (0:Int)).toNat)) (j.row (j.num I.length (ai I) / (G.getD (0:Nat) (0:Int)).toNat))),(.lst false 129 (j.len (j.num (1:Nat) a1)) (j.row (j.num (1:Nat) a1)))]) else none) else none) else none) else (bif aj IntKind.i64 ((↑G.length:Int) - (1:Int)) then (bif decide ((0:Int)≤(↑G.length:Int) - (1:Int))&&decide ((↑G.length:Int) - (1:Int) < (↑G.length:Int)) then (bif bS (G.getD ((↑G.length:Int) - (1:Int)).toNat (0:Int)) then (bif aj IntKind.i64 a0 then (bif decide ((↑I.length:Int)+(1:Int)≤(↑I.length:Int)+(1:Int))&&decide ((4:Int)*a0≤(281474976710656:Int))&&decide ((↑I.length:Int)+(1:Int)≤(9223372036854775807:Int)) then (bif okB I.length (ai I)&&decide (a0.toNat=(List.replicate a0.toNat (0:Int)).length)&&a2 ((32:Int) - O) (List.replicate a0.toNat (0:Int)) (rowOf I.length (ai I)) (↑I.length:Int) (0:Int) then (bif aj IntKind.i64 U then (bif decide ((↑G.length:Int)+(1:Int)≤(↑G.length:Int)+(1:Int))&&decide ((4:Int)*U≤(281474976710656:Int))&&decide ((↑G.length:Int)+(1:Int)≤(9223372036854775807:Int)) then (bif okB G.length (ai G)&&decide (U.toNat=(List.replicate U.toNat (0:Int)).length)&&a3 ((32:Int) - O) (List.replicate U.toNat (0:Int)) (rowOf G.length (ai G)) (↑G.length:Int) (0:Int) M.fst then (bif decide ((0:Nat)+Z.fst.length*(1:Nat)≤Z.fst.length) then (bif j.bL Z.fst.length (ai Z.fst) then (bif aj IntKind.i64 S then (bif decide ((0:Int)≤(↑M.fst.length:Int) - (↑(j.len N):Int))&&decide ((↑M.fst.length:Int) - (↑(j.len N):Int)≤(↑M.fst.length:Int) - (↑(j.len N):Int))&&decide ((4:Int)*S≤(281474976710656:Int))&&decide ((↑M.fst.length:Int) - (↑(j.len N):Int)≤(9223372036854775807:Int)) then (bif aj IntKind.i64 ((↑S.toNat:Int) - (1:Int)) then (bif okB (j.len N) (j.row N)&&decide (M.fst.length=M.fst.length)&&decide (S.toNat=(List.replicate S.toNat (0:Int)).length)&&a4 ((32:Int) - O) M.fst (rowOf (j.len N) (j.row N)) (List.replicate S.toNat (0:Int)) ((↑S.toNat:Int) - (1:Int)) then (bif decide ((0:Nat)+J.snd.fst.length*(1:Nat)≤J.snd.fst.length) then (bif j.bL J.snd.fst.length (ai J.snd.fst) then (bif decide ((0:Nat)+J.fst.length*(1:Nat)≤J.fst.length) then (bif j.bL J.fst.length (ai J.fst) then (bif j.bL (j.len ab) (j.row ab)&&decide ((0:Int)≤(32:Int) - O)&&decide ((32:Int) - O≤(32:Int)) then some (.tup [(.lst false 129 (j.len (j.num J.snd.fst.length (ai J.snd.fst))) (j.row (j.num J.snd.fst.length (ai J.snd.fst)))),(.lst false 129 (j.len (j.num (j.len ab) (j.row ab) / (2:Nat) ^ ((32:Int) - O).toNat)) (j.row (j.num (j.len ab) (j.row ab) / (2:Nat) ^ ((32:Int) - O).toNat)))]) else none) else none) else none) else none) else none) else none) else none) else none) else none) else none) else none) else none) else none) else none) else none) else none) else none) else none) else none) else none))) else none)):=by kernel_rfl
theorem tO {n:Nat} (h:(toL n).length≤17592186044416):aa.bL (toL n).length (ai (toL n))=true:=by
 show (okB (toL n).length (ai (toL n))&&decide ((toL n).length≤17592186044416))=true
 rw [jJ,decide_eq_true h];rfl
theorem gx {n:Nat} (h:(toL n).length≤17592186044416):aa.can (toL n).length (ai (toL n))=true:=by
 show (dH (toL n).length (ai (toL n))&&decide ((toL n).length≤17592186044416))=true
 rw [wM,decide_eq_true h];rfl
theorem mu (n:Nat):aa.num (toL n).length (ai (toL n))=n:=mw n
theorem BE (a b:Nat):aa.cmp a b=if a < b then -1 else if b < a then 1 else 0:=rfl
abbrev Hi:Env:=Hh aa xl mK xm mL wU kP
abbrev divC (a b:Nat):Option AV:=aD Tryz.prog Hi 10 10 152 [.lst false 129 (toL a).length (ai (toL a)), .lst false 129 (toL b).length (ai (toL b))]
theorem UM (a b:Nat) (h:a < b) (j:(toL a).length≤8796093022208) (G:(toL b).length≤8796093022208):divC a b=some (.tup [.val (.slice none 0 0), .lst false 129 (toL a).length (ai (toL a))]):=by
 show aD _ _ _ _ _ _=_
 rw [BM,gx (by omega),gx (by omega),mu,mu,BE,if_pos h]
 rfl
theorem div_one (a b:Nat) (h:¬ a < b) (a1:0 < b) (I:(toL b).length=1) (ab:(toL a).length≤8796093022208) (a0:(toL b).length≤8796093022208):divC a b=some (.tup [aa.fF (a / b),aa.fF (a % b)]):=by
 have J:toL b≠ []:=fun e=>by have:=(toL_nil_iff b).1 e;omega
 obtain ⟨t,U,G,rt⟩:=cu (jK b) 0 (by omega)
 have Z:0 < t:=by
  have:=GO b J
  rw [List.getLast_eq_getElem] at this
  simp only [I] at this
  rw [G] at this
  omega
 have M:b=t:=by
  have j:=mZ (toL b) 0 (by omega)
  rw [List.drop_eq_getElem_cons (show 0 < (toL b).length by omega),G,List.drop_of_length_le (by omega),bU,cp,cK] at j
  simp [cp] at j
  exact j
 have N:¬ aa.cmp a b < 0:=by rw [BE,if_neg h];split <;> omega
 have a2:a % t < t:=Nat.mod_lt a Z
 have S:aa.bL 1 (ai [((a % t:Nat):Int)])=true:=lI (zs:= [((a % t:Nat):Int)]) (by rw [my];exact ⟨by omega,oS⟩) (by simp)
 have O:aa.num 1 (ai [((a % t:Nat):Int)])=a % t:=by
  have:=lC [((a % t:Nat):Int)]
  rw [bU,cp,Int.toNat_natCast,Nat.mul_zero,Nat.add_zero] at this
  exact this
 show aD _ _ _ _ _ _=_
 rw [BM]
 simp only [mu,rt,Int.toNat_natCast,O]
 rw [gx (by omega),gx (by omega),dF N,dT (show ((toL b).length:Int)=1 by omega),dT (show (0:Int) < ((toL b).length:Int) by omega),tO (by omega),e9 U,dT (show (0:Int) < (t:Int) by omega),S,M]
 rfl
theorem UK (a b:Nat) (c1:¬ a < b) (ht:0 < b) (hq:¬ (toL b).length=1) (hr:(toL a).length≤8796093022208) (hs:(toL b).length≤8796093022208):divC a b=some (.tup [aa.fF (a / b),aa.fF (a % b)]):=by
 have c5:¬ aa.cmp a b < 0:=by rw [BE,if_neg c1];split <;> omega
 have hx:(toL b).length≤(toL a).length:=kJ (Nat.lt_of_le_of_lt (by omega) (lz (Nat.le_refl _)))
 have bD:toL b≠ []:=fun e=>by have:=(toL_nil_iff b).1 e;omega
 have hy:0 < (toL b).length:=List.length_pos_iff.2 bD
 have b0:(toL b).length - 1 < (toL b).length:=by omega
 obtain ⟨t,b5,a6,rt⟩:=cu (jK b) _ b0
 have hA:0 < t:=by
  have:=GO b bD
  rw [List.getLast_eq_getElem,a6] at this
  omega
 have hz:2≤(toL b).length:=by omega
 have hv:aU t≤32:=Bo (m:=32) b5
 have c2:0 < aU t:=by
  rcases Nat.eq_zero_or_pos (aU t) with h | h
  ·have:=(lh t).1
   rw [h] at this
   omega
  ·exact h
 have b1:32 - aU t < 32:=by omega
 have bx:2 ^ (32 - aU t)*2 ^ aU t=4294967296:=by rw [← Nat.pow_add,show 32 - aU t+aU t=32 by omega]
 have c6:2 ^ (32 - aU t)*2 ^ (aU t - 1)=2147483648:=by rw [← Nat.pow_add,show 32 - aU t+(aU t - 1)=31 by omega]
 have b6:=Nat.mul_le_mul_left (2 ^ (32 - aU t)) ((lh t).2 c2)
 have eh:=Nat.mul_lt_mul_of_pos_left (lh t).1 (Nat.two_pow_pos (32 - aU t))
 rw [c6] at b6
 rw [bx] at eh
 have dy:2 ^ (32 - aU t)≤2 ^ 31:=Nat.pow_le_pow_right (by decide) (by omega)
 have S:=Nat.two_pow_pos (32 - aU t)
 have c4:=mZ (toL b) ((toL b).length - 1) (by omega)
 rw [List.drop_eq_getElem_cons b0,a6,List.drop_of_length_le (by omega),bU,cp,cK,Int.toNat_natCast,Nat.mul_zero,Nat.add_zero] at c4
 have c3:=dD (nH (jK b) ((toL b).length - 1))
 rw [List.length_take,Nat.min_eq_left (by omega)] at c3
 have a1:4294967296 ^ ((toL b).length - 1)*2147483648≤2 ^ (32 - aU t)*b:=by
  have e:2 ^ (32 - aU t)*(4294967296 ^ ((toL b).length - 1)*t)≤2 ^ (32 - aU t)*b:=Nat.mul_le_mul_left _ (by omega)
  refine Nat.le_trans ?_ e
  rw [Nat.mul_left_comm]
  exact Nat.mul_le_mul_left _ b6
 have c7:2 ^ (32 - aU t)*b < 4294967296 ^ (toL b).length:=by
  have J:b < 4294967296 ^ ((toL b).length - 1)*(t+1):=by
   rw [Nat.mul_add,Nat.mul_one];omega
  have G:2 ^ (32 - aU t)*(t+1)≤4294967296:=by
   have:t+1≤2 ^ aU t:=(lh t).1
   have:=Nat.mul_le_mul_left (2 ^ (32 - aU t)) this
   rwa [bx] at this
  have I:=Nat.mul_lt_mul_of_pos_left J S
  rw [Nat.mul_left_comm] at I
  have M:=Nat.mul_le_mul_left (4294967296 ^ ((toL b).length - 1)) G
  have ab:4294967296 ^ (toL b).length=4294967296 ^ ((toL b).length - 1)*4294967296:=by rw [← Nat.pow_succ];exact congrArg (fun z=>4294967296 ^ z) (by omega)
  rw [ab]
  exact Nat.lt_of_lt_of_le I M
 have a2:(toL (2 ^ (32 - aU t)*b)).length=(toL b).length:=by
  have a7:=kJ c7
  rcases Nat.lt_or_ge (toL (2 ^ (32 - aU t)*b)).length (toL b).length with a0 | a0
  ·exfalso
   have N:=lz (n:=2 ^ (32 - aU t)*b) (m:=(toL b).length - 1) (by omega)
   have O:4294967296 ^ ((toL b).length - 1)*1≤4294967296 ^ ((toL b).length - 1)*2147483648:=Nat.mul_le_mul_left _ (by decide)
   rw [Nat.mul_one] at O
   exact absurd (Nat.lt_of_lt_of_le N (Nat.le_trans O a1)) (Nat.lt_irrefl _)
  ·omega
 have b7:(toL (2 ^ (32 - aU t)*b)).length - 1 < (toL (2 ^ (32 - aU t)*b)).length:=by omega
 obtain ⟨Z,en,ct,e0⟩:=cu (jK (2 ^ (32 - aU t)*b)) _ b7
 have eo:2147483648≤Z:=by
  have a7:=mZ (toL (2 ^ (32 - aU t)*b)) ((toL (2 ^ (32 - aU t)*b)).length - 1) (by omega)
  rw [List.drop_eq_getElem_cons b7,ct,List.drop_of_length_le (by omega),bU,cp,cK,Int.toNat_natCast,Nat.mul_zero,Nat.add_zero] at a7
  have a0:=dD (nH (jK (2 ^ (32 - aU t)*b)) ((toL (2 ^ (32 - aU t)*b)).length - 1))
  rw [List.length_take,Nat.min_eq_left (by omega)] at a0
  rw [← a2] at a1
  rcases Nat.lt_or_ge Z 2147483648 with N | N
  ·exfalso
   have O:=Nat.mul_le_mul_left (4294967296 ^ ((toL (2 ^ (32 - aU t)*b)).length - 1)) (show Z+1≤2147483648 by omega)
   rw [Nat.mul_add,Nat.mul_one] at O
   omega
  ·exact N
 have b2:uN ((32 - aU t:Nat):Int) (List.replicate ((toL a).length+1) 0) (toL a) (toL a).length 0:= ⟨jK a,kM _,rfl,by omega,rfl,rfl,_,rfl,b1⟩
 obtain ⟨_,hl,hB,U⟩:=MH _ _ _ _ _ b2
 have k1:=Un _ _ _ _ _ b2
 rw [Int.toNat_natCast,cK] at U
 have J:(32:Int) - (aa.bl t:Int)=((32 - aU t:Nat):Int):=by
  show (32:Int) - (aU t:Int)=_
  omega
 have G:((toL b).length:Int) - 1=(((toL b).length - 1:Nat):Int):=by omega
 have I:((toL a).length:Int)+1=(((toL a).length+1:Nat):Int):=by omega
 have M:((toL b).length:Int)+1=(((toL b).length+1:Nat):Int):=by omega
 show aD _ _ _ _ _ _=_
 rw [BM]
 simp only [mu,G,Int.toNat_natCast,rt,J,I,M,jZ,List.length_replicate,eq_self,decide_true,Nat.mul_one,Nat.zero_add,k1]
 generalize mK ((32 - aU t:Nat):Int) (List.replicate ((toL a).length+1) 0) (toL a) (toL a).length 0=j at*
 have b3:uO ((32 - aU t:Nat):Int) (List.replicate ((toL b).length+1) 0) (toL b) (toL b).length 0 j.1:= ⟨jK b,kM _,rfl,by omega,rfl,rfl,_,rfl,b1⟩
 obtain ⟨_,hn,hD,w3⟩:=MI _ _ _ _ _ _ b3
 have ep:=Uo _ _ _ _ _ _ b3
 rw [Int.toNat_natCast,cK] at w3
 simp only [ep]
 generalize mL ((32 - aU t:Nat):Int) (List.replicate ((toL b).length+1) 0) (toL b) (toL b).length 0 j.1=Wr at*
 have c0:aa.num Wr.1.length (ai Wr.1)=2 ^ (32 - aU t)*b:=by rw [lC,w3]
 simp only [c0]
 have c8:aa.len (2 ^ (32 - aU t)*b)=(toL b).length:=a2
 have ec:rowOf (aa.len (2 ^ (32 - aU t)*b)) (aa.row (2 ^ (32 - aU t)*b))=toL (2 ^ (32 - aU t)*b):=lV _
 have eb:okB (aa.len (2 ^ (32 - aU t)*b)) (aa.row (2 ^ (32 - aU t)*b))=true:=jJ _
 have ab:(j.1.length:Int) - ((aa.len (2 ^ (32 - aU t)*b):Nat):Int)=(((toL a).length+1 - (toL b).length:Nat):Int):=by rw [c8];omega
 simp only [ec,eb,ab,Int.toNat_natCast]
 have ed:vL j.1 < 4294967296 ^ ((toL a).length+1 - (toL b).length)*vL (toL (2 ^ (32 - aU t)*b)):=by
  rw [U,cK]
  have J:a < 4294967296 ^ (toL a).length:=lz (Nat.le_refl _)
  have G:=Nat.mul_le_mul_left (4294967296 ^ ((toL a).length+1 - (toL b).length)) a1
  rw [← Nat.mul_assoc,← Nat.pow_add,show (toL a).length+1 - (toL b).length+((toL b).length - 1)=(toL a).length by omega] at G
  have I:2 ^ (32 - aU t)*a < 2 ^ (32 - aU t)*4294967296 ^ (toL a).length:=Nat.mul_lt_mul_of_pos_left J S
  have M:2 ^ (32 - aU t)*4294967296 ^ (toL a).length≤4294967296 ^ (toL a).length*2147483648:=by
   rw [Nat.mul_comm];exact Nat.mul_le_mul_left _ dy
  exact Nat.lt_of_lt_of_le I (Nat.le_trans M G)
 have b4:tY ((32 - aU t:Nat):Int) j.1 (toL (2 ^ (32 - aU t)*b)) (List.replicate ((toL a).length+1 - (toL b).length) 0) ((((toL a).length+1 - (toL b).length:Nat):Int) - 1):= ⟨Z,hl,jK _,kM _,by omega,by omega,en,eo,e0,by rw [List.length_replicate,a2];omega,by rw [List.length_replicate];exact ed,by rw [List.length_replicate]⟩
 obtain ⟨_,a3,b8,ho,ch,a4,a5⟩:=Mf _ _ _ _ _ b4
 have et:=TJ _ _ _ _ _ b4
 rw [U,cK,Nat.mul_div_mul_left _ _ S] at a4
 rw [U,cK,Nat.mul_mod_mul_left] at a5
 rw [List.length_replicate] at ch
 simp only [et,List.length_replicate,eq_self,decide_true]
 generalize kP ((32 - aU t:Nat):Int) j.1 (toL (2 ^ (32 - aU t)*b)) (List.replicate ((toL a).length+1 - (toL b).length) 0) ((((toL a).length+1 - (toL b).length:Nat):Int) - 1)=Q at*
 have dx:(toL (vL Q.1)).length≤17592186044416:=Nat.le_trans (kJ (dD a3)) (by omega)
 have eu:aa.num Q.2.1.length (ai Q.2.1)=a / b:=by rw [lC,a4]
 have ev:aa.num Q.1.length (ai Q.1)=vL Q.1:=lC _
 have ey:aa.num (aa.len (vL Q.1)) (aa.row (vL Q.1))=vL Q.1:=mw _
 have ez:vL Q.1 / 2 ^ (32 - aU t)=a % b:=by rw [a5,Nat.mul_div_cancel_left _ S]
 have eN:aa.bL (aa.len (vL Q.1)) (aa.row (vL Q.1))=true:=tO dx
 have e1:aj .i64 (((toL b).length - 1:Nat):Int)=true:=bz _ (by omega)
 have fv:decide ((0:Int)≤(((toL b).length - 1:Nat):Int))=true:=dT (by omega)
 have ha:decide ((((toL b).length - 1:Nat):Int) < ((toL b).length:Int))=true:=dT (by omega)
 have hf:aj .i64 (((toL a).length+1:Nat):Int)=true:=bz _ (by omega)
 have hg:decide ((((toL a).length+1:Nat):Int)≤(((toL a).length+1:Nat):Int))=true:=dT (by omega)
 have hh:decide ((4:Int)*(((toL a).length+1:Nat):Int)≤281474976710656)=true:=dT (by omega)
 have hi:decide ((((toL a).length+1:Nat):Int)≤9223372036854775807)=true:=dT (by omega)
 have hj:aj .i64 (((toL b).length+1:Nat):Int)=true:=bz _ (by omega)
 have hk:decide ((((toL b).length+1:Nat):Int)≤(((toL b).length+1:Nat):Int))=true:=dT (by omega)
 have e2:decide ((4:Int)*(((toL b).length+1:Nat):Int)≤281474976710656)=true:=dT (by omega)
 have e3:decide ((((toL b).length+1:Nat):Int)≤9223372036854775807)=true:=dT (by omega)
 have e4:decide (Wr.1.length≤Wr.1.length)=true:=dT (by omega)
 have e5:aa.bL Wr.1.length (ai Wr.1)=true:=lI hn (by omega)
 have e6:aj .i64 (((toL a).length+1 - (toL b).length:Nat):Int)=true:=bz _ (by omega)
 have e7:decide ((0:Int)≤(((toL a).length+1 - (toL b).length:Nat):Int))=true:=dT (by omega)
 have fa:decide ((((toL a).length+1 - (toL b).length:Nat):Int)≤(((toL a).length+1 - (toL b).length:Nat):Int))=true:=dT (by omega)
 have fc:decide ((4:Int)*(((toL a).length+1 - (toL b).length:Nat):Int)≤281474976710656)=true:=dT (by omega)
 have fh:decide ((((toL a).length+1 - (toL b).length:Nat):Int)≤9223372036854775807)=true:=dT (by omega)
 have fs:aj .i64 ((((toL a).length+1 - (toL b).length:Nat):Int) - 1)=true:=aO (by omega)
 have gf:decide (Q.2.1.length≤Q.2.1.length)=true:=dT (by omega)
 have gn:aa.bL Q.2.1.length (ai Q.2.1)=true:=lI b8 (by omega)
 have g1:decide (Q.1.length≤Q.1.length)=true:=dT (by omega)
 have g2:aa.bL Q.1.length (ai Q.1)=true:=lI a3 (by omega)
 have g3:decide ((0:Int)≤((32 - aU t:Nat):Int))=true:=dT (by omega)
 have g4:decide (((32 - aU t:Nat):Int)≤32)=true:=dT (by omega)
 have g5:bS (t:Int)=true:=e9 b5
 have g6:decide (((toL b).length:Int)=1)=false:=dF (by omega)
 have g7:decide (aa.cmp a b < 0)=false:=dF c5
 have g8:aa.can (toL a).length (ai (toL a))=true:=gx (by omega)
 have hb:aa.can (toL b).length (ai (toL b))=true:=gx (by omega)
 have hc:okB (toL a).length (ai (toL a))=true:=jJ a
 have hd:okB (toL b).length (ai (toL b))=true:=jJ b
 rw [g8,hb,g7,g6]
 simp only [e1,fv,ha,hf,hg,hh,hi,hj,hk,e2,e3,e4,e5,e6,e7,fa,fc,fh,fs,gf,gn,g1,g2,g3,g4,g5,hc,hd,eu,ev,ey,eN,ez]
 rfl
def yW (j:Sg) (args:List AV):Option (Bool×AV):=match args with | [.lst _ 129 m f, .lst _ 129 n g]=>some (j.can m f&&j.can n g&&j.aL m f&&j.aL n g&&decide (0 < j.num n g), .tup [j.fF (j.num m f / j.num n g),j.fF (j.num m f % j.num n g)]) | _=>none
theorem J7:Entry Tryz.prog 152 (yW aa):=by
 refine im (E:=Hi) (u:=10) (d:=10) PC (QC (QD (P4 aB.none))).ok (by kernel_rfl) (fun args r h=> ?_)
 unfold yW at h
 split at h
 ·rename_i fl m f a6 n g
  simp only [Option.some.injEq,Prod.mk.injEq,Bool.and_eq_true,decide_eq_true_eq] at h
  obtain ⟨⟨⟨⟨⟨a7,bx⟩,bD⟩,b0⟩,ab⟩,rfl⟩:=h
  obtain ⟨a2,b5,b6,b7,U⟩:=so a7
  obtain ⟨a3,b8,ch,ct,Z⟩:=so bx
  obtain ⟨_,_,M,_⟩:=qQ bD
  obtain ⟨_,_,N,_⟩:=qQ b0
  rw [U] at M
  rw [Z] at N
  have O:∀ (B:Nat→Prop) (w:World) (J:List Value),ao Tryz.prog cd B w [.lst fl 129 m f, .lst a6 129 n g] bh J→ao Tryz.prog cd B w [.lst false 129 (toL (aa.num m f)).length (ai (toL (aa.num m f))), .lst false 129 (toL (aa.num n g)).length (ai (toL (aa.num n g)))] bh J:=by
   intro B w J j
   rw [← U,← Z]
   obtain ⟨y,zs,rfl,I,S⟩:=j
   obtain ⟨b3,zs,rfl,b1,b2⟩:=S
   exact ⟨y,_,rfl,kL a2 I,b3,_,rfl,kL a3 b1,b2⟩
  generalize aa.num m f=a at*
  generalize aa.num n g=b at*
  by_cases G:a < b
  ·refine ⟨_,_,UM a b G M N,O,fun B w y j=> ?_⟩
   obtain ⟨J,rfl,a1,b4,a4,I,S⟩:=j
   refine ⟨J,rfl,a1,b4,a4, ?_, ?_⟩
   ·rw [Nat.div_eq_of_lt G]
    have I:a1= .slice none 0 0:=I
    have a5:aa.len 0=0:=by show (toL 0).length=0;rw [toL_zero];rfl
    unfold Sg.fF
    rw [a5]
    exact ⟨none,0,I,Nat.le_refl _,(fun h=>by cases h), .inl rfl⟩
   ·rw [Nat.mod_eq_of_lt G]
    exact S
  ·by_cases a0:(toL b).length=1
   ·exact ⟨_,_,div_one a b G ab a0 M N,O,fun B w y j=>j⟩
   ·exact ⟨_,_,UK a b G ab a0 M N,O,fun B w y j=>j⟩
 ·cases h
end
end Go.Proofs.YtamcpiicmfielaaGreat.L
