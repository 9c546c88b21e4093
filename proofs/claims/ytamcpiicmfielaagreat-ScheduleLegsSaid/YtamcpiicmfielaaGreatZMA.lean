import Derived.Test.YtamcpiicmfielaaGreatZL
set_option linter.unusedVariables false
set_option linter.unusedSimpArgs false
namespace Go.Proofs.YtamcpiicmfielaaGreat.L
open Go Go.V Go.RowKit Go.Proofs.YtamcpiicmfielaaGreat.Sp Go.Proofs.YtamcpiicmfielaaGreat.F Go.Proofs.YtamcpiicmfielaaGreatW.PrintWords
open Go.Proofs (Tryz.prog)
noncomputable section
def Fp (S:Sg) (args:List AV):Option (Bool×AV):=match args with | [.val (.int .u32 x)]=>some (bV x, .val (.int .i64 (32 - (S.bl x.toNat:Int)))) | _=>none
theorem Vz:Entry Tryz.prog 170 (Fp aa):=by
 refine aZ (E:= ⟨qi aa,az,aq⟩) (u:=10) (d:=10) GV aO mixed (by kernel_rfl) (fun args r h=> ?_)
 unfold Fp at h
 split at h
 ·rename_i x
  simp only [Option.some.injEq,Prod.mk.injEq] at h
  obtain ⟨G,rfl⟩:=h
  rw [Xs,G]
  obtain ⟨n,I,rfl⟩:=jI G
  have hb:=BC n 32 I
  rw [Int.toNat_natCast,aJ (show -9223372036854775808≤(32:Int) - (aa.bl n:Int)∧(32:Int) - (aa.bl n:Int)≤9223372036854775807 by omega)]
  rfl
 ·cases h
def Fk (args:List AV):Option (Bool×AV):=match args with
 | [.val (.int .u32 x), .val (.int .u32 y), .val (.int .u32 z)]=>some (bV x&&bV y&&bV z&&decide (x < z), .tup [.val (.int .u32 ((x*4294967296+y) / z)), .val (.int .u32 ((x*4294967296+y) % z))])
 | _=>none
theorem x5 (h l:Nat) (G:h < 4294967296) (I:l < 4294967296):b9 .or .u64 (IntKind.u64.wrap ((h:Int)*4294967296)) (l:Int)=((h*4294967296+l:Nat):Int):=by
 have e:=ZB h l G I
 rw [eT (a:=l) (by omega)] at e
 exact e
theorem Vt:Entry Tryz.prog 174 Fk:=by
 refine aZ (E:=np) (u:=10) (d:=10) (aK _) aO mixed (by kernel_rfl) (fun args r h=> ?_)
 unfold Fk at h
 split at h
 ·simp only [Option.some.injEq,Prod.mk.injEq,Bool.and_eq_true,decide_eq_true_eq] at h
  obtain ⟨⟨⟨⟨G,I⟩,J⟩,Z⟩,rfl⟩:=h
  obtain ⟨x,O,rfl⟩:=jI G
  obtain ⟨y,U,rfl⟩:=jI I
  obtain ⟨z,aE,rfl⟩:=jI J
  have M:(x*4294967296+y) / z < 4294967296:=by
   rw [Nat.div_lt_iff_lt_mul (by omega)]
   have:(x+1)*4294967296≤z*4294967296:=Nat.mul_le_mul_right _ (by omega)
   omega
  have ab:(x*4294967296+y) % z < z:=Nat.mod_lt _ (by omega)
  rw [US,dF (show ¬ (z:Int)=0 by omega),dF (show ¬ (z:Int)≤x by omega),di (show 0≤(x:Int)∧(x:Int)≤18446744073709551615 by omega),di (show 0≤(y:Int)∧(y:Int)≤18446744073709551615 by omega),di (show 0≤(z:Int)∧(z:Int)≤18446744073709551615 by omega),x5 x y O U]
  rw [show Int.tdiv ((x*4294967296+y:Nat):Int) (z:Int)=(((x*4294967296+y) / z:Nat):Int) from rfl,show Int.tmod ((x*4294967296+y:Nat):Int) (z:Int)=(((x*4294967296+y) % z:Nat):Int) from rfl,eT (by omega),dG,dG,Nat.mod_eq_of_lt M,Nat.mod_eq_of_lt (show (x*4294967296+y) % z < 4294967296 by omega)]
  rfl
 ·cases h
def Fh (args:List AV):Option (Bool×AV):=match args with
 | [.val (.int .u32 x), .val (.int .u32 y), .val (.int .u32 z)]=>some (bV x&&bV y&&bV z&&decide (z≤1), .tup [.val (.int .u32 ((x+y+z) % 4294967296)), .val (.int .u32 ((x+y+z) / 4294967296))])
 | _=>none
theorem Vq:Entry Tryz.prog 175 Fh:=by
 refine aZ (E:=np) (u:=10) (d:=10) (aK _) aO mixed (by kernel_rfl) (fun args r h=> ?_)
 unfold Fh at h
 split at h
 ·simp only [Option.some.injEq,Prod.mk.injEq,Bool.and_eq_true,decide_eq_true_eq] at h
  obtain ⟨⟨⟨⟨G,I⟩,J⟩,M⟩,rfl⟩:=h
  obtain ⟨x,O,rfl⟩:=jI G
  obtain ⟨y,U,rfl⟩:=jI I
  obtain ⟨z,Z,rfl⟩:=jI J
  rw [QR,di (show 0≤(x:Int)∧(x:Int)≤18446744073709551615 by omega),di (show 0≤(y:Int)∧(y:Int)≤18446744073709551615 by omega),di (show 0≤(z:Int)∧(z:Int)≤18446744073709551615 by omega),← Int.natCast_add,eT (show x+y < 18446744073709551616 by omega),← Int.natCast_add,eT (show x+y+z < 18446744073709551616 by omega),dG,jq,dG,Nat.mod_eq_of_lt (show (x+y+z) / 4294967296 < 4294967296 by omega)]
  rfl
 ·cases h
def Aj:Env:= ⟨au 174 Fk aM,az,aq⟩
theorem PU:bf Tryz.prog Aj.C:=(aK _).add Vt
abbrev gv:List Bool:= [false,true,false,true,true,true]
def jb (G:List Int) (y:Int) (zs:List Int) (r i:Int):List AV:=ao 35 [(0, .lst false 129 G.length (lim G)),(1, .val (.int .u32 y)),(6, .sl false 129 0 0 zs.length),(7, .val (.int .u32 r)),(8, .val (.int .i64 i))]
def iD (G:List Int) (y:Int) (zs:List Int) (r i:Int):Hp:= [.row (.ints .u32 zs) 129 .live]
theorem RV:aI Tryz.prog 169 gv=some (.loop (lb 169 gv)):=by kernel_rfl
theorem TJ:aI Tryz.prog 169 (false :: gv)=some (lb 169 gv):=by kernel_rfl
theorem NH (G:List Int) (y:Int) (zs:List Int) (r i:Int):aP Tryz.prog Aj 169 [0,1,6,7,8] (lb 169 gv) (false :: gv) (jb G y zs r i) (iD G y zs r i)=
  (bif decide ((0:Int)≤i) then (bif decide ((0:Int)≤i)&&decide (i < (↑G.length:Int)) then (bif bV r&&bV (G.getD i.toNat (0:Int))&&bV y&&decide (r < y) then (bif decide ((0:Int)≤i)&&decide (i < (↑zs.length:Int)) then (bif decide (0+i.toNat*1 < zs.length) then (bif ah IntKind.i64 (i - (1:Int)) then some (.normal,ao 35 [(0,(.lst false 129 G.length (lim G))),(1,(.val (.int .u32 y))),(6,(.sl false 129 0 0 zs.length)),(7,(.val (.int .u32 ((r*(4294967296:Int)+G.getD i.toNat (0:Int)) % y)))),(8,(.val (.int .i64 (i - (1:Int)))))], [(.row (.ints .u32 (zs.set (0+i.toNat*1) ((r*(4294967296:Int)+G.getD i.toNat (0:Int)) / y))) 129 .live)]) else none) else none) else none) else none) else none) else some ((.exit 0),ao 35 [(0,(.lst false 129 G.length (lim G))),(1,(.val (.int .u32 y))),(6,(.sl false 129 0 0 zs.length)),(7,(.val (.int .u32 r))),(8,(.val (.int .i64 i)))], [(.row (.ints .u32 zs) 129 .live)])):=by kernel_rfl
theorem OE {G:List Int} {y:Int} {zs:List Int} {r i:Int} {e:Ex} {T:List AV} {H:Hp} (h:aP Tryz.prog Aj 169 [0,1,6,7,8] (lb 169 gv) (false :: gv) (jb G y zs r i) (iD G y zs r i)=some (e,T,H)):V.Ends Tryz.prog false 0 0 (lb 169 gv) (jb G y zs r i) (iD G y zs r i) e T H:=
 bK PU aO mixed TJ h
def vb (G:List Int) (y:Int) (zs:List Int) (r i:Int):Prop:=aH G∧aH zs∧zs.length=G.length∧G.length≤17592186044416∧bV y=true∧0 < y∧r=0∧i=(G.length:Int) - 1
def yH (G:List Int) (y:Int) (zs:List Int) (r i:Int) (q:List Int×Int×Int):Prop:=aH q.1∧q.1.length=G.length∧vL q.1=vL G / y.toNat∧q.2.1=((vL G % y.toNat:Nat):Int)
theorem abG (G:List Int) (y:Nat) (b1:aH G) (hb:G.length≤17592186044416) (a7:0 < y) (b5:y < 4294967296) (d:Nat):∀ (r:Nat) (out:List Int),d≤G.length→aH out→out.length=G.length→r < y→dR (vL (out.drop d)*y+r=vL (G.drop d))→
  ∃ q:List Int×Int×Int,aA Tryz.prog (lb 169 gv) (jb G y out r ((d:Int) - 1)) (iD G y out r ((d:Int) - 1)) (.exit 0) (jb G y q.1 q.2.1 q.2.2) (iD G y q.1 q.2.1 q.2.2)∧aH q.1∧q.1.length=G.length∧vL q.1=vL G / y∧q.2.1=((vL G % y:Nat):Int):=by
 induction d with
 | zero=>
  intro r out bD O M U I
  refine ⟨(out,(r:Int),((0:Nat):Int) - 1), .last (OE ?_) (by intro h;cases h),O,M, ?_, ?_⟩
  ·rw [NH];rfl
  ·have I:=I.out
   rw [List.drop_zero,List.drop_zero] at I
   show vL out=_
   rw [← I,Nat.mul_comm,Nat.mul_add_div a7,Nat.div_eq_of_lt U];simp
  ·have I:=I.out
   rw [List.drop_zero,List.drop_zero] at I
   show (r:Int)=_
   rw [← I,Nat.mul_comm,Nat.mul_add_mod,Nat.mod_eq_of_lt U]
 | succ d bx=>
  intro r out bD O M U Z
  have aE:d < G.length:=by omega
  have a1:d < out.length:=by omega
  obtain ⟨a,ha,b0,b4⟩:=cE b1 d aE
  have b3:(r*4294967296+a) / y < 4294967296:=by
   rw [Nat.div_lt_iff_lt_mul (by omega)]
   have:(r+1)*4294967296≤y*4294967296:=Nat.mul_le_mul_right _ (by omega)
   omega
  have b2:(r*4294967296+a) % y < y:=Nat.mod_lt _ a7
  obtain ⟨q,J,ab⟩:=bx ((r*4294967296+a) % y) (out.set d (((r*4294967296+a) / y:Nat):Int)) (by omega) (fy O _ _ (Int.natCast_nonneg _) (Int.ofNat_lt.2 b3)) (by rw [List.length_set];exact M) b2 (by
   constructor
   rw [List.drop_eq_getElem_cons (l:=out.set d _) (by simpa using a1),List.getElem_set_self,List.drop_set_of_lt (by omega),List.drop_eq_getElem_cons aE,b0,b8,b8,Int.toNat_natCast,Int.toNat_natCast,← Z.out]
   have J:=Nat.div_add_mod (r*4294967296+a) y
   generalize (r*4294967296+a) / y=q at*
   generalize (r*4294967296+a) % y=m at*
   grind)
  refine ⟨q, .more (OE ?_) J,ab⟩
  clear J ab bx Z
  have a6:=NH G y out r (d:Int)
  rw [Int.toNat_natCast,b4,fx ha,fx b5,fx (show r < 4294967296 by omega),Nat.zero_add,Nat.mul_one,dT (show (0:Int)≤(d:Int) by omega),dT (show (d:Int) < (G.length:Int) by omega),dT (show (d:Int) < (out.length:Int) by omega),dT a1,dT (show (r:Int) < y by omega),aJ (show -9223372036854775808≤(d:Int) - 1∧(d:Int) - 1≤9223372036854775807 by omega)] at a6
  rw [show ((d+1:Nat):Int) - 1=(d:Int) by omega,a6]
  unfold jb iD
  rw [List.length_set]
  rfl
theorem YL (G:List Int) (y:Int) (zs:List Int) (r i:Int) (h:vb G y zs r i):∃ q:List Int×Int×Int,aA Tryz.prog (lb 169 gv) (jb G y zs r i) (iD G y zs r i) (.exit 0) (jb G y q.1 q.2.1 q.2.2) (iD G y q.1 q.2.1 q.2.2)∧yH G y zs r i q:=by
 obtain ⟨I,J,M,O,U,ab,rfl,rfl⟩:=h
 obtain ⟨y,Z,rfl⟩:=jI U
 unfold yH
 rw [Int.toNat_natCast]
 exact abG G y I O (by omega) Z G.length 0 zs (Nat.le_refl _) J M (by omega) ⟨by rw [List.drop_of_length_le (by omega),List.drop_of_length_le (Nat.le_refl _)];simp [cC]⟩
def Gt (O:List Int→Int→List Int→Int→Int→Bool) (J:List Int→Int→List Int→Int→Int→List Int×Int×Int) (T:List AV) (H:Hp):Option (Bool×Ex×List AV×Hp):=
 match al T 0,al T 1,al T 6,al T 7,al T 8,H with
 | .lst false 129 I G, .val (.int .u32 y), .sl false 129 0 0 M, .val (.int .u32 r), .val (.int .i64 i), [.row (.ints .u32 zs) 129 .live]=>bif T.length==35 then some (okB I G&&decide (M=zs.length)&&O (rowOf I G) y zs r i, .exit 0,jb (rowOf I G) y ((J (rowOf I G) y zs r i).1) ((J (rowOf I G) y zs r i).2.1) ((J (rowOf I G) y zs r i).2.2),iD (rowOf I G) y ((J (rowOf I G) y zs r i).1) ((J (rowOf I G) y zs r i).2.1) ((J (rowOf I G) y zs r i).2.2)) else none
 | _,_,_,_,_,_=>none
abbrev A1:Type:=List Int→Int→List Int→Int→Int→Bool
abbrev AH:Type:=List Int→Int→List Int→Int→Int→List Int×Int×Int
def IJ (G:A1) (I:AH) (L:aD):aD:=bu 0 169 gv [0,1,6,7,8] (Gt G I) L
def jX (G:List Int) (y:Int) (zs:List Int) (r i:Int):List Int×Int×Int:=Classical.epsilon fun ρ=>aA Tryz.prog (lb 169 gv) (jb G y zs r i) (iD G y zs r i) (.exit 0) (jb G y (ρ.1) (ρ.2.1) (ρ.2.2)) (iD G y (ρ.1) (ρ.2.1) (ρ.2.2))∧yH G y zs r i ρ
theorem MW (G:List Int) (y:Int) (zs:List Int) (r i:Int) (h:vb G y zs r i):aA Tryz.prog (lb 169 gv) (jb G y zs r i) (iD G y zs r i) (.exit 0) (jb G y ((jX G y zs r i).1) ((jX G y zs r i).2.1) ((jX G y zs r i).2.2)) (iD G y ((jX G y zs r i).1) ((jX G y zs r i).2.1) ((jX G y zs r i).2.2))∧yH G y zs r i (jX G y zs r i):=Classical.epsilon_spec (YL G y zs r i h)
def tj (G:List Int) (y:Int) (zs:List Int) (r i:Int):Bool:= @decide (vb G y zs r i) (Classical.propDecidable _)
theorem UB (G:List Int) (y:Int) (zs:List Int) (r i:Int) (h:vb G y zs r i):tj G y zs r i=true:= @decide_eq_true _ (Classical.propDecidable _) h
theorem adL (T:List AV) (H:Hp) (e:Ex) (J:List AV) (I:Hp) (h:Gt tj jX T H=some (true,e,J,I)):V.Ends Tryz.prog false 0 0 (.loop (lb 169 gv)) T H e J I:=by
 unfold Gt at h
 split at h
 ·rename_i b1 U y b2 r i zs Z ab aE a1 a6
  rw [Bool.cond_eq_ite] at h
  split at h
  ·rename_i M
   rw [beq_iff_eq] at M
   simp only [Option.some.injEq,Prod.mk.injEq,Bool.and_eq_true,decide_eq_true_eq] at h
   obtain ⟨⟨⟨k1,bx⟩,bD⟩,rfl,rfl,rfl⟩:=h
   have b0:= @of_decide_eq_true _ (Classical.propDecidable _) bD
   refine Ends.pre (MW (rowOf b1 U) y zs r i b0).1.ends (fun α B w D b3 a7=>bw M (fun p O y G=> ?_) a7)
   simp only [List.mem_cons,List.not_mem_nil,or_false] at O
   rcases O with rfl | rfl | rfl | rfl | rfl
   ·rw [Z] at G;rw [cz];exact cB cr k1 G
   ·rw [ab] at G;exact G
   ·rw [aE] at G;rw [← bx];exact G
   ·rw [a1] at G;exact G
   ·rw [a6] at G;exact G
  ·cases h
 ·cases h
theorem QH {L:aD} (h:aC Tryz.prog L):aC Tryz.prog (IJ tj jX L):=h.bC RV adL
def Hi (S:Sg) (G:A1) (I:AH):Env:= ⟨CT S,az,IJ G I aq⟩
theorem abF (S:Sg) (M:A1) (O:AH) (G:List Int) (y:Int):letI J:=(List.replicate (↑G.length:Int).toNat (0:Int));letI I:=(O (rowOf G.length (lim G)) y J (0:Int) ((↑G.length:Int) - (1:Int)));
  (aG Tryz.prog (Hi S M O) 10 10 169 [.lst false 129 G.length (lim G), .val (.int .u32 y)]=(bif decide ((↑G.length:Int)≤(↑G.length:Int))&&decide ((4:Int)*(↑G.length:Int)≤(281474976710656:Int))&&decide ((↑G.length:Int)≤(9223372036854775807:Int)) then (bif ah IntKind.i64 ((↑G.length:Int) - (1:Int)) then (bif okB G.length (lim G)&&decide ((↑G.length:Int).toNat=J.length)&&M (rowOf G.length (lim G)) y J (0:Int) ((↑G.length:Int) - (1:Int)) then (bif decide (0+I.fst.length*1≤I.fst.length) then (bif S.bR I.fst.length (lim I.fst) then some (.tup [(.lst false 129 (S.len (S.num I.fst.length (lim I.fst))) (S.row (S.num I.fst.length (lim I.fst)))),(.val (.int .u32 (I.snd.fst)))]) else none) else none) else none) else none) else none)):=by kernel_rfl
def FE (S:Sg) (args:List AV):Option (Bool×AV):=match args with | [.lst _ 129 m f, .val (.int .u32 y)]=>some (S.bR m f&&bV y&&decide (0 < y), .tup [S.fP (S.num m f / y.toNat), .val (.int .u32 ((S.num m f % y.toNat:Nat):Int))]) | _=>none
theorem V2:Entry Tryz.prog 169 (FE aa):=by
 refine il (E:=Hi aa tj jX) (u:=10) (d:=10) sr (QH aC.none).ok (by kernel_rfl) (fun args r h=> ?_)
 unfold FE at h
 split at h
 ·rename_i fl m f y
  simp only [Option.some.injEq,Prod.mk.injEq,Bool.and_eq_true,decide_eq_true_eq] at h
  obtain ⟨⟨⟨a1,a6⟩,a7⟩,rfl⟩:=h
  obtain ⟨O,J,U,Z⟩:=L7 a1
  have M:vb (rowOf m f) y (List.replicate (rowOf m f).length 0) 0 ((rowOf m f).length - 1):= ⟨J,kO _,by simp,U,a6,a7,rfl,rfl⟩
  obtain ⟨_,c1,c2,ab,aE⟩:=MW _ _ _ _ _ M
  have G:=abF aa tj jX (rowOf m f) y
  simp only [j4,Nat.mul_one,Nat.zero_add,Int.toNat_natCast,List.length_replicate,eq_self,decide_true] at G
  rw [UB _ _ _ _ _ M] at G
  generalize jX (rowOf m f) y (List.replicate (rowOf m f).length 0) 0 ((rowOf m f).length - 1)=q at*
  rw [iJ J,dT (show ((rowOf m f).length:Int)≤((rowOf m f).length:Int) by omega),dT (show (4:Int)*((rowOf m f).length:Int)≤281474976710656 by omega),dT (show ((rowOf m f).length:Int)≤9223372036854775807 by omega),aJ (show -9223372036854775808≤((rowOf m f).length:Int) - 1∧((rowOf m f).length:Int) - 1≤9223372036854775807 by omega),dT (show q.1.length≤q.1.length by omega),lD c1 (by omega),lB,ab,aE] at G
  refine ⟨_,_,G,fun B w bx I=> ?_,fun B w y I=>by rw [Z];exact I⟩
  obtain ⟨y,zs,rfl,q1,q2⟩:=I
  exact ⟨y,_,rfl,kN O q1,q2⟩
 ·cases h
end
end Go.Proofs.YtamcpiicmfielaaGreat.L
namespace Go.Proofs.YtamcpiicmfielaaGreat.L
open Go Go.V Go.RowKit Go.Proofs.YtamcpiicmfielaaGreat.Sp Go.Proofs.YtamcpiicmfielaaGreat.F Go.Proofs.YtamcpiicmfielaaGreatW.PrintWords
open Go.Proofs (Tryz.prog)
noncomputable section
theorem N2 (a n:Nat) (ha:a < 4294967296) (G:n < 32):IntKind.u64.wrap ((a:Int)*2 ^ min ((n:Int).toNat) 64)=((a*2 ^ n:Nat):Int):=by
 have h:=(Es a n ha G).1
 unfold shl at h
 rw [eT (by omega)] at h
 exact h
theorem Me (c a n:Nat) (G:c < 2 ^ n) (I:n < 32):b9 .or .u32 (c:Int) (((a*2 ^ n % 4294967296:Nat)):Int)=((c+a*2 ^ n % 4294967296:Nat):Int):=(Er c a n G I).1
abbrev gq:List Bool:= [false,true,false,true,true]
def iZ (k:Int) (zs G:List Int) (n i:Int):List AV:=ao 41 [(1, .val (.int .i64 k)),(5, .sl false 129 0 0 zs.length),(13, .lst false 129 G.length (lim G)),(14, .val (.int .i64 n)),(15, .val (.int .i64 i))]
def iB (k:Int) (zs G:List Int) (n i:Int):Hp:= [.row (.ints .u32 zs) 129 .live]
theorem RT:aI Tryz.prog 171 gq=some (.loop (lb 171 gq)):=by kernel_rfl
theorem TH:aI Tryz.prog 171 (false :: gq)=some (lb 171 gq):=by kernel_rfl
theorem NF (k:Int) (zs G:List Int) (n i:Int):letI I:=(zs.set (0+i.toNat*1) (b9 BinOp.or IntKind.u32 (zs.getD (0+i.toNat*1) (0:Int)) (IntKind.u32.wrap (IntKind.u64.wrap (G.getD i.toNat (0:Int)*(2:Int) ^ min k.toNat 64)))));
  (aP Tryz.prog bg 171 [1,5,13,14,15] (lb 171 gq) (false :: gq) (iZ k zs G n i) (iB k zs G n i)=(bif decide (i < n) then (bif decide ((0:Int)≤i)&&decide (i < (↑G.length:Int)) then (bif ah IntKind.u64 (G.getD i.toNat (0:Int)) then (bif decide (k < (0:Int)) then none else (bif decide ((0:Int)≤i)&&decide (i < (↑zs.length:Int)) then (bif decide (0+i.toNat*1 < zs.length) then (bif decide ((0:Int)≤i)&&decide (i < (↑zs.length:Int)) then (bif decide (0+i.toNat*1 < zs.length) then (bif ah IntKind.i64 (i+(1:Int)) then (bif decide ((0:Int)≤i+(1:Int))&&decide (i+(1:Int) < (↑zs.length:Int)) then (bif decide (0+(i+(1:Int)).toNat*1 < I.length) then (bif ah IntKind.i64 (i+(1:Int)) then some (.normal,ao 41 [(1,(.val (.int .i64 k))),(5,(.sl false 129 0 0 zs.length)),(13,(.lst false 129 G.length (lim G))),(14,(.val (.int .i64 n))),(15,(.val (.int .i64 (i+(1:Int)))))], [(.row (.ints .u32 (I.set (0+(i+(1:Int)).toNat*1) (IntKind.u32.wrap ((IntKind.u64.wrap (G.getD i.toNat (0:Int)*(2:Int) ^ min k.toNat 64)).fdiv (4294967296:Int))))) 129 .live)]) else none) else none) else none) else none) else none) else none) else none) else none)) else none) else none) else some ((.exit 0),ao 41 [(1,(.val (.int .i64 k))),(5,(.sl false 129 0 0 zs.length)),(13,(.lst false 129 G.length (lim G))),(14,(.val (.int .i64 n))),(15,(.val (.int .i64 i)))], [(.row (.ints .u32 zs) 129 .live)]))):=by kernel_rfl
theorem OC {k:Int} {zs G:List Int} {n i:Int} {e:Ex} {T:List AV} {H:Hp} (h:aP Tryz.prog bg 171 [1,5,13,14,15] (lb 171 gq) (false :: gq) (iZ k zs G n i) (iB k zs G n i)=some (e,T,H)):V.Ends Tryz.prog false 0 0 (lb 171 gq) (iZ k zs G n i) (iB k zs G n i) e T H:=
 bK (aK _) aO mixed TH h
def u7 (k:Int) (zs G:List Int) (n i:Int):Prop:=aH G∧aH zs∧zs=List.replicate (G.length+1) 0∧G.length≤17592186044415∧n=G.length∧i=0∧∃ a:Nat,k=a∧a < 32
def yF (k:Int) (zs G:List Int) (n i:Int) (q:List Int×Int):Prop:=aH q.1∧q.1.length=G.length+1∧vL q.1=2 ^ k.toNat*vL G
theorem abD (k:Nat) (G:List Int) (b6:aH G) (hb:G.length≤17592186044415) (O:k < 32) (d:Nat):∀ (i c:Nat) (out:List Int),i+d=G.length→aH out→out.length=G.length+1→(∃ h:i < out.length,out[i]=(c:Int))→c < 2 ^ k→
  dR (vL (out.take i)+4294967296 ^ i*c=2 ^ k*vL (G.take i))→
  ∃ q:List Int×Int,aA Tryz.prog (lb 171 gq) (iZ k out G G.length i) (iB k out G G.length i) (.exit 0) (iZ k q.1 G G.length q.2) (iB k q.1 G G.length q.2)∧aH q.1∧q.1.length=G.length+1∧vL q.1=2 ^ k*vL G:=by
 induction d with
 | zero=>
  intro i c out hi aE ab I Z a6
  obtain ⟨M,I⟩:=I
  have dx:i=G.length:=by omega
  refine ⟨(out,(i:Int)), .last (OC ?_) (by intro h;cases h),aE,ab, ?_⟩
  ·rw [NF,dF (show ¬ ((i:Int) < G.length) by omega)]
   rfl
  ·have J:=kE out i M
   rw [List.take_of_length_le (by omega),I,Int.toNat_natCast,a6.out,List.take_of_length_le (by omega)] at J
   exact J
 | succ d b2=>
  intro i c out hi aE ab I Z a7
  obtain ⟨M,I⟩:=I
  have b0:i < G.length:=by omega
  have bD:i+1 < out.length:=by omega
  obtain ⟨a,ha,b5,ct⟩:=cE b6 i b0
  have c0:out.getD i 0=(c:Int):=by rw [List.getD_eq_getElem?_getD,List.getElem?_eq_getElem M,Option.getD_some,I]
  have U:=dR.mk (kE G i b0)
  rw [b5,Int.toNat_natCast] at U
  have b1:=N2 a k ha O
  have c3:=(Es a k ha O).2
  have ch:=Me c a k Z O
  have b7:=(Er c a k Z O).2
  have b4:a*2 ^ k / 4294967296 < 2 ^ k:=by
   rw [Nat.div_lt_iff_lt_mul (by decide),Nat.mul_comm (2 ^ k)];exact c3
  have c6:(2:Nat) ^ k≤2 ^ 31:=Nat.pow_le_pow_right (by decide) (by omega)
  have c7:(2:Nat) ^ 31=2147483648:=rfl
  obtain ⟨q,J,bx⟩:=b2 (i+1) (a*2 ^ k / 4294967296) ((out.set i ((c+a*2 ^ k % 4294967296:Nat):Int)).set (i+1) ((a*2 ^ k / 4294967296:Nat):Int)) (by omega)
   (fy (fy aE _ _ (Int.natCast_nonneg _) (Int.ofNat_lt.2 b7)) _ _ (Int.natCast_nonneg _) (by generalize a*2 ^ k / 4294967296=z at *;omega)) (by simp [ab]) ⟨by rw [List.length_set,List.length_set];exact bD,List.getElem_set_self _⟩ b4 (by
   constructor
   rw [List.take_set_of_le (Nat.le_refl _),zP _ _ M,sf,List.length_take,Nat.min_eq_left (by omega),U.out,Int.toNat_natCast,Nat.pow_succ]
   have a6:=a7.out
   have b3:4294967296 ^ i*(a*2 ^ k % 4294967296)+4294967296 ^ i*4294967296*(a*2 ^ k / 4294967296)=4294967296 ^ i*(a*2 ^ k):=by
    rw [Nat.mul_assoc,← Nat.mul_add,Nat.mod_add_div]
   rw [Nat.mul_add,← Nat.add_assoc,a6,Nat.add_assoc,b3]
   grind)
  refine ⟨q, .more (OC ?_) J,bx⟩
  clear J bx b2 a7 U
  have a1:=NF k out G G.length i
  have e1:(i:Int)+1=((i+1:Nat):Int):=by omega
  generalize c4:a*2 ^ k / 4294967296=z at*
  have c5:z % 4294967296=z:=Nat.mod_eq_of_lt (by omega)
  simp only [e1,Int.toNat_natCast,Nat.zero_add,Nat.mul_one] at a1
  simp only [Int.toNat_natCast] at b1
  rw [ct,c0,b1,dG,ch,jq,c4,dG,c5,List.length_set,di (show 0≤(a:Int)∧(a:Int)≤18446744073709551615 by omega),bB _ (by omega),dT (show (i:Int) < (G.length:Int) by omega),dT (show (0:Int)≤(i:Int) by omega),dT (show (i:Int) < (out.length:Int) by omega),dT M,dF (show ¬ (k:Int) < 0 by omega),dT (show (0:Int)≤((i+1:Nat):Int) by omega),dT (show ((i+1:Nat):Int) < (out.length:Int) by omega),dT bD] at a1
  rw [a1]
  unfold iZ iB
  rw [List.length_set,List.length_set]
  rfl
theorem YJ (k:Int) (zs G:List Int) (n i:Int) (h:u7 k zs G n i):∃ q:List Int×Int,aA Tryz.prog (lb 171 gq) (iZ k zs G n i) (iB k zs G n i) (.exit 0) (iZ k q.1 G n q.2) (iB k q.1 G n q.2)∧yF k zs G n i q:=by
 obtain ⟨I,M,rfl,J,rfl,rfl,a,rfl,ha⟩:=h
 unfold yF
 rw [Int.toNat_natCast]
 exact abD a G I J ha G.length 0 0 _ (by omega) (kO _) (by simp) ⟨by simp,by simp⟩ (Nat.two_pow_pos a) ⟨by simp [cC]⟩
def Gr (O:Int→List Int→List Int→Int→Int→Bool) (J:Int→List Int→List Int→Int→Int→List Int×Int) (T:List AV) (H:Hp):Option (Bool×Ex×List AV×Hp):=
 match al T 1,al T 5,al T 13,al T 14,al T 15,H with
 | .val (.int .i64 k), .sl false 129 0 0 M, .lst false 129 I G, .val (.int .i64 n), .val (.int .i64 i), [.row (.ints .u32 zs) 129 .live]=>bif T.length==41 then some (okB I G&&decide (M=zs.length)&&O k zs (rowOf I G) n i, .exit 0,iZ k ((J k zs (rowOf I G) n i).1) (rowOf I G) n ((J k zs (rowOf I G) n i).2),iB k ((J k zs (rowOf I G) n i).1) (rowOf I G) n ((J k zs (rowOf I G) n i).2)) else none
 | _,_,_,_,_,_=>none
abbrev AZ:Type:=Int→List Int→List Int→Int→Int→Bool
abbrev AF:Type:=Int→List Int→List Int→Int→Int→List Int×Int
def IH (G:AZ) (I:AF) (L:aD):aD:=bu 0 171 gq [1,5,13,14,15] (Gr G I) L
def mR (k:Int) (zs G:List Int) (n i:Int):List Int×Int:=Classical.epsilon fun ρ=>aA Tryz.prog (lb 171 gq) (iZ k zs G n i) (iB k zs G n i) (.exit 0) (iZ k (ρ.1) G n (ρ.2)) (iB k (ρ.1) G n (ρ.2))∧yF k zs G n i ρ
theorem MU (k:Int) (zs G:List Int) (n i:Int) (h:u7 k zs G n i):aA Tryz.prog (lb 171 gq) (iZ k zs G n i) (iB k zs G n i) (.exit 0) (iZ k ((mR k zs G n i).1) G n ((mR k zs G n i).2)) (iB k ((mR k zs G n i).1) G n ((mR k zs G n i).2))∧yF k zs G n i (mR k zs G n i):=Classical.epsilon_spec (YJ k zs G n i h)
def xw (k:Int) (zs G:List Int) (n i:Int):Bool:= @decide (u7 k zs G n i) (Classical.propDecidable _)
theorem Uz (k:Int) (zs G:List Int) (n i:Int) (h:u7 k zs G n i):xw k zs G n i=true:= @decide_eq_true _ (Classical.propDecidable _) h
theorem adJ (T:List AV) (H:Hp) (e:Ex) (J:List AV) (I:Hp) (h:Gr xw mR T H=some (true,e,J,I)):V.Ends Tryz.prog false 0 0 (.loop (lb 171 gq)) T H e J I:=by
 unfold Gr at h
 split at h
 ·rename_i k b2 b1 U n i zs Z a6 ab aE a1
  rw [Bool.cond_eq_ite] at h
  split at h
  ·rename_i M
   rw [beq_iff_eq] at M
   simp only [Option.some.injEq,Prod.mk.injEq,Bool.and_eq_true,decide_eq_true_eq] at h
   obtain ⟨⟨⟨k1,bx⟩,bD⟩,rfl,rfl,rfl⟩:=h
   have b0:= @of_decide_eq_true _ (Classical.propDecidable _) bD
   refine Ends.pre (MU k zs (rowOf b1 U) n i b0).1.ends (fun α B w D b3 a7=>bw M (fun p O y G=> ?_) a7)
   simp only [List.mem_cons,List.not_mem_nil,or_false] at O
   rcases O with rfl | rfl | rfl | rfl | rfl
   ·rw [Z] at G;exact G
   ·rw [a6] at G;rw [← bx];exact G
   ·rw [ab] at G;rw [cz];exact cB cr k1 G
   ·rw [aE] at G;exact G
   ·rw [a1] at G;exact G
  ·cases h
 ·cases h
theorem QF {L:aD} (h:aC Tryz.prog L):aC Tryz.prog (IH xw mR L):=h.bC RT adJ
abbrev gu:List Bool:= [false,true,false,true,true]
def ja (k:Int) (zs G:List Int) (n i:Int) (us:List Int):List AV:=ao 41 [(1, .val (.int .i64 k)),(5, .sl false 129 1 0 zs.length),(13, .lst false 129 G.length (lim G)),(14, .val (.int .i64 n)),(15, .val (.int .i64 i))]
def iC (k:Int) (zs G:List Int) (n i:Int) (us:List Int):Hp:= [.row (.ints .u32 us) 129 .live, .row (.ints .u32 zs) 129 .live]
theorem RU:aI Tryz.prog 171 gu=some (.loop (lb 171 gu)):=by kernel_rfl
theorem TI:aI Tryz.prog 171 (false :: gu)=some (lb 171 gu):=by kernel_rfl
theorem NG (k:Int) (zs G:List Int) (n i:Int) (us:List Int):letI I:=(zs.set (0+i.toNat*1) (b9 BinOp.or IntKind.u32 (zs.getD (0+i.toNat*1) (0:Int)) (IntKind.u32.wrap (IntKind.u64.wrap (G.getD i.toNat (0:Int)*(2:Int) ^ min k.toNat 64)))));
  (eL Tryz.prog bg 1 171 [1,5,13,14,15] (lb 171 gu) (false :: gu) (ja k zs G n i us) (iC k zs G n i us)=(bif decide (i < n) then (bif decide ((0:Int)≤i)&&decide (i < (↑G.length:Int)) then (bif ah IntKind.u64 (G.getD i.toNat (0:Int)) then (bif decide (k < (0:Int)) then none else (bif decide ((0:Int)≤i)&&decide (i < (↑zs.length:Int)) then (bif decide (0+i.toNat*1 < zs.length) then (bif decide ((0:Int)≤i)&&decide (i < (↑zs.length:Int)) then (bif decide (0+i.toNat*1 < zs.length) then (bif ah IntKind.i64 (i+(1:Int)) then (bif decide ((0:Int)≤i+(1:Int))&&decide (i+(1:Int) < (↑zs.length:Int)) then (bif decide (0+(i+(1:Int)).toNat*1 < I.length) then (bif ah IntKind.i64 (i+(1:Int)) then some (.normal,ao 41 [(1,(.val (.int .i64 k))),(5,(.sl false 129 1 0 zs.length)),(13,(.lst false 129 G.length (lim G))),(14,(.val (.int .i64 n))),(15,(.val (.int .i64 (i+(1:Int)))))], [(.row (.ints .u32 us) 129 .live),(.row (.ints .u32 (I.set (0+(i+(1:Int)).toNat*1) (IntKind.u32.wrap ((IntKind.u64.wrap (G.getD i.toNat (0:Int)*(2:Int) ^ min k.toNat 64)).fdiv (4294967296:Int))))) 129 .live)]) else none) else none) else none) else none) else none) else none) else none) else none)) else none) else none) else some ((.exit 0),ao 41 [(1,(.val (.int .i64 k))),(5,(.sl false 129 1 0 zs.length)),(13,(.lst false 129 G.length (lim G))),(14,(.val (.int .i64 n))),(15,(.val (.int .i64 i)))], [(.row (.ints .u32 us) 129 .live),(.row (.ints .u32 zs) 129 .live)]))):=by kernel_rfl
theorem OD {k:Int} {zs G:List Int} {n i:Int} {us:List Int} {e:Ex} {T:List AV} {H:Hp} (h:eL Tryz.prog bg 1 171 [1,5,13,14,15] (lb 171 gu) (false :: gu) (ja k zs G n i us) (iC k zs G n i us)=some (e,T,H)):V.Ends Tryz.prog false 1 0 (lb 171 gu) (ja k zs G n i us) (iC k zs G n i us) e T H:=
 pF (aK _) aO mixed TI h
def u9 (k:Int) (zs G:List Int) (n i:Int) (us:List Int):Prop:=aH G∧aH zs∧zs=List.replicate (G.length+1) 0∧G.length≤17592186044415∧n=G.length∧i=0∧∃ a:Nat,k=a∧a < 32
def yG (k:Int) (zs G:List Int) (n i:Int) (us:List Int) (q:List Int×Int):Prop:=aH q.1∧q.1.length=G.length+1∧vL q.1=2 ^ k.toNat*vL G
theorem abE (k:Nat) (G:List Int) (b6:aH G) (hb:G.length≤17592186044415) (O:k < 32) (us:List Int) (d:Nat):∀ (i c:Nat) (out:List Int),i+d=G.length→aH out→out.length=G.length+1→(∃ h:i < out.length,out[i]=(c:Int))→c < 2 ^ k→
  dR (vL (out.take i)+4294967296 ^ i*c=2 ^ k*vL (G.take i))→
  ∃ q:List Int×Int,bN Tryz.prog 1 (lb 171 gu) (ja k out G G.length i us) (iC k out G G.length i us) (.exit 0) (ja k q.1 G G.length q.2 us) (iC k q.1 G G.length q.2 us)∧aH q.1∧q.1.length=G.length+1∧vL q.1=2 ^ k*vL G:=by
 induction d with
 | zero=>
  intro i c out hi aE ab I Z a6
  obtain ⟨M,I⟩:=I
  have dx:i=G.length:=by omega
  refine ⟨(out,(i:Int)), .last (OD ?_) (by intro h;cases h),aE,ab, ?_⟩
  ·rw [NG,dF (show ¬ ((i:Int) < G.length) by omega)]
   rfl
  ·have J:=kE out i M
   rw [List.take_of_length_le (by omega),I,Int.toNat_natCast,a6.out,List.take_of_length_le (by omega)] at J
   exact J
 | succ d b2=>
  intro i c out hi aE ab I Z a7
  obtain ⟨M,I⟩:=I
  have b0:i < G.length:=by omega
  have bD:i+1 < out.length:=by omega
  obtain ⟨a,ha,b5,ct⟩:=cE b6 i b0
  have c0:out.getD i 0=(c:Int):=by rw [List.getD_eq_getElem?_getD,List.getElem?_eq_getElem M,Option.getD_some,I]
  have U:=dR.mk (kE G i b0)
  rw [b5,Int.toNat_natCast] at U
  have b1:=N2 a k ha O
  have c3:=(Es a k ha O).2
  have ch:=Me c a k Z O
  have b7:=(Er c a k Z O).2
  have b4:a*2 ^ k / 4294967296 < 2 ^ k:=by
   rw [Nat.div_lt_iff_lt_mul (by decide),Nat.mul_comm (2 ^ k)];exact c3
  have c6:(2:Nat) ^ k≤2 ^ 31:=Nat.pow_le_pow_right (by decide) (by omega)
  have c7:(2:Nat) ^ 31=2147483648:=rfl
  obtain ⟨q,J,bx⟩:=b2 (i+1) (a*2 ^ k / 4294967296) ((out.set i ((c+a*2 ^ k % 4294967296:Nat):Int)).set (i+1) ((a*2 ^ k / 4294967296:Nat):Int)) (by omega)
   (fy (fy aE _ _ (Int.natCast_nonneg _) (Int.ofNat_lt.2 b7)) _ _ (Int.natCast_nonneg _) (by generalize a*2 ^ k / 4294967296=z at *;omega)) (by simp [ab]) ⟨by rw [List.length_set,List.length_set];exact bD,List.getElem_set_self _⟩ b4 (by
   constructor
   rw [List.take_set_of_le (Nat.le_refl _),zP _ _ M,sf,List.length_take,Nat.min_eq_left (by omega),U.out,Int.toNat_natCast,Nat.pow_succ]
   have a6:=a7.out
   have b3:4294967296 ^ i*(a*2 ^ k % 4294967296)+4294967296 ^ i*4294967296*(a*2 ^ k / 4294967296)=4294967296 ^ i*(a*2 ^ k):=by
    rw [Nat.mul_assoc,← Nat.mul_add,Nat.mod_add_div]
   rw [Nat.mul_add,← Nat.add_assoc,a6,Nat.add_assoc,b3]
   grind)
  refine ⟨q, .more (OD ?_) J,bx⟩
  clear J bx b2 a7 U
  have a1:=NG k out G G.length i us
  have e1:(i:Int)+1=((i+1:Nat):Int):=by omega
  generalize c4:a*2 ^ k / 4294967296=z at*
  have c5:z % 4294967296=z:=Nat.mod_eq_of_lt (by omega)
  simp only [e1,Int.toNat_natCast,Nat.zero_add,Nat.mul_one] at a1
  simp only [Int.toNat_natCast] at b1
  rw [ct,c0,b1,dG,ch,jq,c4,dG,c5,List.length_set,di (show 0≤(a:Int)∧(a:Int)≤18446744073709551615 by omega),bB _ (by omega),dT (show (i:Int) < (G.length:Int) by omega),dT (show (0:Int)≤(i:Int) by omega),dT (show (i:Int) < (out.length:Int) by omega),dT M,dF (show ¬ (k:Int) < 0 by omega),dT (show (0:Int)≤((i+1:Nat):Int) by omega),dT (show ((i+1:Nat):Int) < (out.length:Int) by omega),dT bD] at a1
  rw [a1]
  unfold ja iC
  rw [List.length_set,List.length_set]
  rfl
theorem YK (k:Int) (zs G:List Int) (n i:Int) (us:List Int) (h:u9 k zs G n i us):∃ q:List Int×Int,bN Tryz.prog 1 (lb 171 gu) (ja k zs G n i us) (iC k zs G n i us) (.exit 0) (ja k q.1 G n q.2 us) (iC k q.1 G n q.2 us)∧yG k zs G n i us q:=by
 obtain ⟨I,M,rfl,J,rfl,rfl,a,rfl,ha⟩:=h
 unfold yG
 rw [Int.toNat_natCast]
 exact abE a G I J ha us G.length 0 0 _ (by omega) (kO _) (by simp) ⟨by simp,by simp⟩ (Nat.two_pow_pos a) ⟨by simp [cC]⟩
def Gs (O:Int→List Int→List Int→Int→Int→List Int→Bool) (J:Int→List Int→List Int→Int→Int→List Int→List Int×Int) (T:List AV) (H:Hp):Option (Bool×Ex×List AV×Hp):=
 match al T 1,al T 5,al T 13,al T 14,al T 15,H with
 | .val (.int .i64 k), .sl false 129 1 0 M, .lst false 129 I G, .val (.int .i64 n), .val (.int .i64 i), [.row (.ints .u32 us) 129 .live, .row (.ints .u32 zs) 129 .live]=>bif T.length==41 then some (okB I G&&decide (M=zs.length)&&O k zs (rowOf I G) n i us, .exit 0,ja k ((J k zs (rowOf I G) n i us).1) (rowOf I G) n ((J k zs (rowOf I G) n i us).2) us,iC k ((J k zs (rowOf I G) n i us).1) (rowOf I G) n ((J k zs (rowOf I G) n i us).2) us) else none
 | _,_,_,_,_,_=>none
abbrev A0:Type:=Int→List Int→List Int→Int→Int→List Int→Bool
abbrev AG:Type:=Int→List Int→List Int→Int→Int→List Int→List Int×Int
def II (G:A0) (I:AG) (L:aD):aD:=bu 1 171 gu [1,5,13,14,15] (Gs G I) L
def mS (k:Int) (zs G:List Int) (n i:Int) (us:List Int):List Int×Int:=Classical.epsilon fun ρ=>bN Tryz.prog 1 (lb 171 gu) (ja k zs G n i us) (iC k zs G n i us) (.exit 0) (ja k (ρ.1) G n (ρ.2) us) (iC k (ρ.1) G n (ρ.2) us)∧yG k zs G n i us ρ
theorem MV (k:Int) (zs G:List Int) (n i:Int) (us:List Int) (h:u9 k zs G n i us):bN Tryz.prog 1 (lb 171 gu) (ja k zs G n i us) (iC k zs G n i us) (.exit 0) (ja k ((mS k zs G n i us).1) G n ((mS k zs G n i us).2) us) (iC k ((mS k zs G n i us).1) G n ((mS k zs G n i us).2) us)∧yG k zs G n i us (mS k zs G n i us):=Classical.epsilon_spec (YK k zs G n i us h)
def xx (k:Int) (zs G:List Int) (n i:Int) (us:List Int):Bool:= @decide (u9 k zs G n i us) (Classical.propDecidable _)
theorem UA (k:Int) (zs G:List Int) (n i:Int) (us:List Int) (h:u9 k zs G n i us):xx k zs G n i us=true:= @decide_eq_true _ (Classical.propDecidable _) h
theorem adK (T:List AV) (H:Hp) (e:Ex) (J:List AV) (I:Hp) (h:Gs xx mS T H=some (true,e,J,I)):V.Ends Tryz.prog false 1 0 (.loop (lb 171 gu)) T H e J I:=by
 unfold Gs at h
 split at h
 ·rename_i k b2 b1 U n i us zs Z a6 ab aE a1
  rw [Bool.cond_eq_ite] at h
  split at h
  ·rename_i M
   rw [beq_iff_eq] at M
   simp only [Option.some.injEq,Prod.mk.injEq,Bool.and_eq_true,decide_eq_true_eq] at h
   obtain ⟨⟨⟨k1,bx⟩,bD⟩,rfl,rfl,rfl⟩:=h
   have b0:= @of_decide_eq_true _ (Classical.propDecidable _) bD
   refine Ends.pre (MV k zs (rowOf b1 U) n i us b0).1.ends (fun α B w D b3 a7=>bw M (fun p O y G=> ?_) a7)
   simp only [List.mem_cons,List.not_mem_nil,or_false] at O
   rcases O with rfl | rfl | rfl | rfl | rfl
   ·rw [Z] at G;exact G
   ·rw [a6] at G;rw [← bx];exact G
   ·rw [ab] at G;rw [cz];exact cB cr k1 G
   ·rw [aE] at G;exact G
   ·rw [a1] at G;exact G
  ·cases h
 ·cases h
theorem QG {L:aD} (h:aC Tryz.prog L):aC Tryz.prog (II xx mS L):=h.bC RU adK
abbrev gA:List Bool:= [false,true,false,true,true]
def gZ (G:List Int) (k:Int) (zs:List Int) (n i:Int):List AV:=ao 45 [(0, .lst false 129 G.length (lim G)),(1, .val (.int .i64 k)),(5, .sl false 129 0 0 zs.length),(12, .val (.int .i64 n)),(13, .val (.int .i64 i))]
def gU (G:List Int) (k:Int) (zs:List Int) (n i:Int):Hp:= [.row (.ints .u32 zs) 129 .live]
theorem R8:aI Tryz.prog 158 gA=some (.loop (lb 158 gA)):=by kernel_rfl
theorem TO:aI Tryz.prog 158 (false :: gA)=some (lb 158 gA):=by kernel_rfl
theorem NL (G:List Int) (k:Int) (zs:List Int) (n i:Int):
  (aP Tryz.prog bg 158 [0,1,5,12,13] (lb 158 gA) (false :: gA) (gZ G k zs n i) (gU G k zs n i)=(bif decide (i < n) then (bif decide ((0:Int)≤i)&&decide (i < (↑G.length:Int)) then (bif ah IntKind.u64 (G.getD i.toNat (0:Int)) then (bif ah IntKind.i64 (i+(1:Int)) then (bif decide (i+(1:Int) < (↑G.length:Int)) then (bif ah IntKind.i64 (i+(1:Int)) then (bif decide ((0:Int)≤i+(1:Int))&&decide (i+(1:Int) < (↑G.length:Int)) then (bif ah IntKind.u64 (G.getD (i+(1:Int)).toNat (0:Int)) then (bif decide (k < (0:Int)) then none else (bif decide ((0:Int)≤i)&&decide (i < (↑zs.length:Int)) then (bif decide (0+i.toNat*1 < zs.length) then (bif ah IntKind.i64 (i+(1:Int)) then some (.normal,ao 45 [(0,(.lst false 129 G.length (lim G))),(1,(.val (.int .i64 k))),(5,(.sl false 129 0 0 zs.length)),(12,(.val (.int .i64 n))),(13,(.val (.int .i64 (i+(1:Int)))))], [(.row (.ints .u32 (zs.set (0+i.toNat*1) (IntKind.u32.wrap ((b9 BinOp.or IntKind.u64 (G.getD i.toNat (0:Int)) (IntKind.u64.wrap (G.getD (i+(1:Int)).toNat (0:Int)*(4294967296:Int)))).fdiv ((2:Int) ^ min k.toNat 64))))) 129 .live)]) else none) else none) else none)) else none) else none) else none) else (bif decide (k < (0:Int)) then none else (bif decide ((0:Int)≤i)&&decide (i < (↑zs.length:Int)) then (bif decide (0+i.toNat*1 < zs.length) then (bif ah IntKind.i64 (i+(1:Int)) then some (.normal,ao 45 [(0,(.lst false 129 G.length (lim G))),(1,(.val (.int .i64 k))),(5,(.sl false 129 0 0 zs.length)),(12,(.val (.int .i64 n))),(13,(.val (.int .i64 (i+(1:Int)))))], [(.row (.ints .u32 (zs.set (0+i.toNat*1) (IntKind.u32.wrap ((G.getD i.toNat (0:Int)).fdiv ((2:Int) ^ min k.toNat 64))))) 129 .live)]) else none) else none) else none))) else none) else none) else none) else some ((.exit 0),ao 45 [(0,(.lst false 129 G.length (lim G))),(1,(.val (.int .i64 k))),(5,(.sl false 129 0 0 zs.length)),(12,(.val (.int .i64 n))),(13,(.val (.int .i64 i)))], [(.row (.ints .u32 zs) 129 .live)]))):=by kernel_rfl
theorem E7 {G:List Int} {k:Int} {zs:List Int} {n i:Int} {e:Ex} {T:List AV} {H:Hp} (h:aP Tryz.prog bg 158 [0,1,5,12,13] (lb 158 gA) (false :: gA) (gZ G k zs n i) (gU G k zs n i)=some (e,T,H)):V.Ends Tryz.prog false 0 0 (lb 158 gA) (gZ G k zs n i) (gU G k zs n i) e T H:=
 bK (aK _) aO mixed TO h
def vh (G:List Int) (k:Int) (zs:List Int) (n i:Int):Prop:=aH G∧aH zs∧zs.length=G.length∧G.length≤17592186044416∧n=G.length∧i=0∧∃ a:Nat,k=a∧a≤32
def yI (G:List Int) (k:Int) (zs:List Int) (n i:Int) (q:List Int×Int):Prop:=aH q.1∧q.1.length=G.length∧vL q.1=vL G / 2 ^ k.toNat
theorem abH (z k:Nat) (G:k≤32):((z:Nat):Int).fdiv (2 ^ min ((k:Int).toNat) 64)=((z / 2 ^ k:Nat):Int):=by
 rw [Int.toNat_natCast,Nat.min_eq_left (by omega),show ((2:Int) ^ k)=((2 ^ k:Nat):Int) by norm_cast]
 exact gM _ _
theorem SA (a y:Nat) (ha:a < 4294967296) (G:y < 4294967296):b9 .or .u64 (a:Int) (IntKind.u64.wrap ((y:Int)*4294967296))=((a+y*4294967296:Nat):Int):=by
 have h:Go.bits .or .u64 ((a:Nat):Int) ((y*4294967296:Nat):Int)=((a+y*4294967296:Nat):Int):=by
  rw [u64_or_nat _ _ (by omega) (by omega),Nat.or_comm,nat_join 32 _ _ (by omega) (by omega),Nat.add_comm]
 rw [show (y:Int)*4294967296=((y*4294967296:Nat):Int) from rfl,eT (by omega)]
 exact h
theorem ad3 (G:List Int) (k:Nat) (O:aH G) (hb:G.length≤17592186044416) (bD:k≤32) (d:Nat):∀ (i:Nat) (out:List Int),i+d=G.length→aH out→out.length=G.length→dR (vL (out.take i)=vL G / 2 ^ k % 4294967296 ^ i)→
  ∃ q:List Int×Int,aA Tryz.prog (lb 158 gA) (gZ G k out G.length i) (gU G k out G.length i) (.exit 0) (gZ G k q.1 G.length q.2) (gU G k q.1 G.length q.2)∧aH q.1∧q.1.length=G.length∧vL q.1=vL G / 2 ^ k:=by
 induction d with
 | zero=>
  intro i out hi Z U ab
  refine ⟨(out,(i:Int)), .last (E7 ?_) (by intro h;cases h),Z,U, ?_⟩
  ·rw [NL,dF (show ¬ ((i:Int) < G.length) by omega)]
   rfl
  ·have ab:=ab.out
   rw [List.take_of_length_le (by omega),Nat.mod_eq_of_lt] at ab
   ·exact ab
   ·refine Nat.lt_of_le_of_lt (Nat.div_le_self _ _) ?_
    have:=dQ O
    rwa [show i=G.length by omega]
 | succ d aE=>
  intro i out hi Z U a6
  have b2:i < G.length:=by omega
  have b3:i < out.length:=by omega
  obtain ⟨a,ha,b6,ch⟩:=cE O i b2
  have b5:G.drop i=(a:Int) :: G.drop (i+1):=by rw [List.drop_eq_getElem_cons b2,b6]
  have a1:∀ y a7:Nat,y < 4294967296→vL (G.drop (i+1))=y+4294967296*a7→
    vL ((out.set i (((a+y*4294967296) / 2 ^ k % 4294967296:Nat):Int)).take (i+1))=vL G / 2 ^ k % 4294967296 ^ (i+1):=by
   intro y a7 b1 c0
   rw [zP _ _ b3,sf,List.length_take,Nat.min_eq_left (by omega),Int.toNat_natCast,a6.out,mod_pow_succ]
   rw [UR (vL G) i k a y a7 (by rw [UZ O i (by omega),b5,b8,c0,Int.toNat_natCast]) bD]
  have I:=NL G k out G.length i
  have e1:(i:Int)+1=((i+1:Nat):Int):=by omega
  simp only [e1,Int.toNat_natCast,Nat.zero_add,Nat.mul_one] at I
  have b0:=abH
  simp only [Int.toNat_natCast] at b0
  rw [ch,di (show 0≤(a:Int)∧(a:Int)≤18446744073709551615 by omega),bB _ (by omega),dT (show (i:Int) < (G.length:Int) by omega),dT (show (0:Int)≤(i:Int) by omega),dF (show ¬ (k:Int) < 0 by omega),dT (show (i:Int) < (out.length:Int) by omega),dT b3] at I
  by_cases b4:i+1 < G.length
  ·obtain ⟨y,b1,b7,ct⟩:=cE O (i+1) b4
   have bx:vL (G.drop (i+1))=y+4294967296*vL (G.drop (i+2)):=by rw [List.drop_eq_getElem_cons b4,b7,b8,Int.toNat_natCast]
   obtain ⟨q,J,M⟩:=aE (i+1) _ (by omega) (fy Z i _ (lx ((a+y*4294967296) / 2 ^ k)).1 (lx _).2) (by rw [List.length_set];exact U) ⟨a1 y _ b1 bx⟩
   refine ⟨q, .more (E7 ?_) J,M⟩
   clear J M aE a6 a1
   rw [dT (show ((i+1:Nat):Int) < (G.length:Int) by omega),ct,di (show 0≤(y:Int)∧(y:Int)≤18446744073709551615 by omega),dT (show (0:Int)≤((i+1:Nat):Int) by omega),SA a y ha b1,b0 _ _ bD,dG] at I
   rw [I]
   unfold gZ gU
   rw [List.length_set]
   rfl
  ·have bx:vL (G.drop (i+1))=0+4294967296*0:=by rw [List.drop_of_length_le (by omega)];rfl
   obtain ⟨q,J,M⟩:=aE (i+1) _ (by omega) (fy Z i _ (lx ((a+0*4294967296) / 2 ^ k)).1 (lx _).2) (by rw [List.length_set];exact U) ⟨a1 0 _ (by omega) bx⟩
   refine ⟨q, .more (E7 ?_) J,M⟩
   clear J M aE a6 a1
   rw [dF (show ¬ ((i+1:Nat):Int) < (G.length:Int) by omega),b0 _ _ bD,dG] at I
   rw [I,Nat.zero_mul,Nat.add_zero]
   unfold gZ gU
   rw [List.length_set]
   rfl
theorem YQ (G:List Int) (k:Int) (zs:List Int) (n i:Int) (h:vh G k zs n i):∃ q:List Int×Int,aA Tryz.prog (lb 158 gA) (gZ G k zs n i) (gU G k zs n i) (.exit 0) (gZ G k q.1 n q.2) (gU G k q.1 n q.2)∧yI G k zs n i q:=by
 obtain ⟨I,J,M,O,rfl,rfl,a,rfl,ha⟩:=h
 unfold yI
 rw [Int.toNat_natCast]
 exact ad3 G a I O ha G.length 0 zs (by omega) J M ⟨by rw [List.take_zero,cC,Nat.pow_zero,Nat.mod_one]⟩
def Gy (O:List Int→Int→List Int→Int→Int→Bool) (J:List Int→Int→List Int→Int→Int→List Int×Int) (T:List AV) (H:Hp):Option (Bool×Ex×List AV×Hp):=
 match al T 0,al T 1,al T 5,al T 12,al T 13,H with
 | .lst false 129 I G, .val (.int .i64 k), .sl false 129 0 0 M, .val (.int .i64 n), .val (.int .i64 i), [.row (.ints .u32 zs) 129 .live]=>bif T.length==45 then some (okB I G&&decide (M=zs.length)&&O (rowOf I G) k zs n i, .exit 0,gZ (rowOf I G) k ((J (rowOf I G) k zs n i).1) n ((J (rowOf I G) k zs n i).2),gU (rowOf I G) k ((J (rowOf I G) k zs n i).1) n ((J (rowOf I G) k zs n i).2)) else none
 | _,_,_,_,_,_=>none
abbrev A4:Type:=List Int→Int→List Int→Int→Int→Bool
abbrev AK:Type:=List Int→Int→List Int→Int→Int→List Int×Int
def IM (G:A4) (I:AK) (L:aD):aD:=bu 0 158 gA [0,1,5,12,13] (Gy G I) L
def lM (G:List Int) (k:Int) (zs:List Int) (n i:Int):List Int×Int:=Classical.epsilon fun ρ=>aA Tryz.prog (lb 158 gA) (gZ G k zs n i) (gU G k zs n i) (.exit 0) (gZ G k (ρ.1) n (ρ.2)) (gU G k (ρ.1) n (ρ.2))∧yI G k zs n i ρ
theorem M1 (G:List Int) (k:Int) (zs:List Int) (n i:Int) (h:vh G k zs n i):aA Tryz.prog (lb 158 gA) (gZ G k zs n i) (gU G k zs n i) (.exit 0) (gZ G k ((lM G k zs n i).1) n ((lM G k zs n i).2)) (gU G k ((lM G k zs n i).1) n ((lM G k zs n i).2))∧yI G k zs n i (lM G k zs n i):=Classical.epsilon_spec (YQ G k zs n i h)
def tt (G:List Int) (k:Int) (zs:List Int) (n i:Int):Bool:= @decide (vh G k zs n i) (Classical.propDecidable _)
theorem UG (G:List Int) (k:Int) (zs:List Int) (n i:Int) (h:vh G k zs n i):tt G k zs n i=true:= @decide_eq_true _ (Classical.propDecidable _) h
theorem adQ (T:List AV) (H:Hp) (e:Ex) (J:List AV) (I:Hp) (h:Gy tt lM T H=some (true,e,J,I)):V.Ends Tryz.prog false 0 0 (.loop (lb 158 gA)) T H e J I:=by
 unfold Gy at h
 split at h
 ·rename_i b1 U k b2 n i zs Z ab a6 aE a1
  rw [Bool.cond_eq_ite] at h
  split at h
  ·rename_i M
   rw [beq_iff_eq] at M
   simp only [Option.some.injEq,Prod.mk.injEq,Bool.and_eq_true,decide_eq_true_eq] at h
   obtain ⟨⟨⟨k1,bx⟩,bD⟩,rfl,rfl,rfl⟩:=h
   have b0:= @of_decide_eq_true _ (Classical.propDecidable _) bD
   refine Ends.pre (M1 (rowOf b1 U) k zs n i b0).1.ends (fun α B w D b3 a7=>bw M (fun p O y G=> ?_) a7)
   simp only [List.mem_cons,List.not_mem_nil,or_false] at O
   rcases O with rfl | rfl | rfl | rfl | rfl
   ·rw [Z] at G;rw [cz];exact cB cr k1 G
   ·rw [ab] at G;exact G
   ·rw [a6] at G;rw [← bx];exact G
   ·rw [aE] at G;exact G
   ·rw [a1] at G;exact G
  ·cases h
 ·cases h
theorem QM {L:aD} (h:aC Tryz.prog L):aC Tryz.prog (IM tt lM L):=h.bC R8 adQ
def Hm (S:Sg) (G:A4) (I:AK):Env:= ⟨CT S,az,IM G I aq⟩
theorem ad2 (S:Sg) (M:A4) (O:AK) (G:List Int) (k:Int):letI J:=(List.replicate (↑G.length:Int).toNat (0:Int));letI I:=(O (rowOf G.length (lim G)) k J (↑G.length:Int) (0:Int));
  (aG Tryz.prog (Hm S M O) 10 10 158 [.lst false 129 G.length (lim G), .val (.int .i64 k)]=(bif decide ((↑G.length:Int)≤(↑G.length:Int))&&decide ((4:Int)*(↑G.length:Int)≤(281474976710656:Int))&&decide ((↑G.length:Int)≤(9223372036854775807:Int)) then (bif okB G.length (lim G)&&decide ((↑G.length:Int).toNat=J.length)&&M (rowOf G.length (lim G)) k J (↑G.length:Int) (0:Int) then (bif decide (0+I.fst.length*1≤I.fst.length) then (bif S.bR I.fst.length (lim I.fst) then some (.lst false 129 (S.len (S.num I.fst.length (lim I.fst))) (S.row (S.num I.fst.length (lim I.fst)))) else none) else none) else none) else none)):=by kernel_rfl
def zO (S:Sg) (args:List AV):Option (Bool×AV):=match args with | [.lst _ 129 m f, .val (.int .i64 k)]=>some (S.bR m f&&decide (0≤k)&&decide (k≤32),S.fP (S.num m f / 2 ^ k.toNat)) | _=>none
theorem Ke:Entry Tryz.prog 158 (zO aa):=by
 refine il (E:=Hm aa tt lM) (u:=10) (d:=10) sr (QM aC.none).ok (by kernel_rfl) (fun args r h=> ?_)
 unfold zO at h
 split at h
 ·rename_i fl m f k
  simp only [Option.some.injEq,Prod.mk.injEq,Bool.and_eq_true,decide_eq_true_eq] at h
  obtain ⟨⟨⟨aE,a1⟩,a6⟩,rfl⟩:=h
  obtain ⟨O,J,U,Z⟩:=L7 aE
  have M:vh (rowOf m f) k (List.replicate (rowOf m f).length 0) (rowOf m f).length 0:= ⟨J,kO _,by simp,U,rfl,rfl,k.toNat,by omega,by omega⟩
  obtain ⟨_,c1,c2,ab⟩:=M1 _ _ _ _ _ M
  have G:=ad2 aa tt lM (rowOf m f) k
  simp only [j4,Nat.mul_one,Nat.zero_add,Int.toNat_natCast,List.length_replicate,eq_self,decide_true] at G
  rw [UG _ _ _ _ _ M] at G
  generalize lM (rowOf m f) k (List.replicate (rowOf m f).length 0) (rowOf m f).length 0=q at*
  rw [iJ J,dT (show ((rowOf m f).length:Int)≤((rowOf m f).length:Int) by omega),dT (show (4:Int)*((rowOf m f).length:Int)≤281474976710656 by omega),dT (show ((rowOf m f).length:Int)≤9223372036854775807 by omega),dT (show q.1.length≤q.1.length by omega),lD c1 (by omega),lB,ab] at G
  refine ⟨_,_,G,fun B w a7 I=> ?_,fun B w y I=>by rw [Z];exact I⟩
  obtain ⟨y,zs,rfl,q1,q2⟩:=I
  exact ⟨y,_,rfl,kN O q1,q2⟩
 ·cases h
end
end Go.Proofs.YtamcpiicmfielaaGreat.L
namespace Go.Proofs.YtamcpiicmfielaaGreat.L
open Go Go.V Go.RowKit Go.Proofs.YtamcpiicmfielaaGreat.Sp Go.Proofs.YtamcpiicmfielaaGreat.F Go.Proofs.YtamcpiicmfielaaGreatW.PrintWords
open Go.Proofs (Tryz.prog)
noncomputable section
def Ai:Env:= ⟨au 175 Fh aM,az,aq⟩
theorem PT:bf Tryz.prog Ai.C:=(aK _).add Vq
abbrev eD:List Bool:= [false,false,true,true,true,true]
def eP (us vs:List Int) (i k g r:Int) (qs:List Int):List AV:=ao 194 [(0, .sl false 129 0 0 us.length),(1, .lst false 129 vs.length (lim vs)),(2, .val (.int .i64 i)),(7, .val (.int .i64 k)),(9, .val (.int .u64 g)),(10, .val (.int .u64 r))]
def dZ (us vs:List Int) (i k g r:Int) (qs:List Int):Hp:= [.row (.ints .u32 us) 129 .live, .row (.ints .u32 qs) 129 .live]
theorem Ro:aI Tryz.prog 172 eD=some (.loop (lb 172 eD)):=by kernel_rfl
theorem Ta:aI Tryz.prog 172 (false :: eD)=some (lb 172 eD):=by kernel_rfl
theorem aa8 (us vs:List Int) (i k g r:Int) (qs:List Int):letI G:=(IntKind.u64.wrap (r+vs.getD (k - (1:Int)).toNat (0:Int)));letI I:=(IntKind.u64.wrap (g - (1:Int)));letI J:Option (Ex×List AV×Hp):=(bif ah IntKind.i64 (k - (1:Int)) then (bif decide ((0:Int)≤k - (1:Int))&&decide (k - (1:Int) < (↑vs.length:Int)) then (bif ah IntKind.u64 (vs.getD (k - (1:Int)).toNat (0:Int)) then (bif decide ((0:Int) < G.fdiv (4294967296:Int)) then (bif decide (I.fdiv (4294967296:Int)=(0:Int)) then some ((.exit 0),ao 194 [(0,(.sl false 129 0 0 us.length)),(1,(.lst false 129 vs.length (lim vs))),(2,(.val (.int .i64 i))),(7,(.val (.int .i64 k))),(9,(.val (.int .u64 I))),(10,(.val (.int .u64 G)))], [(.row (.ints .u32 us) 129 .live),(.row (.ints .u32 qs) 129 .live)]) else some (.normal,ao 194 [(0,(.sl false 129 0 0 us.length)),(1,(.lst false 129 vs.length (lim vs))),(2,(.val (.int .i64 i))),(7,(.val (.int .i64 k))),(9,(.val (.int .u64 I))),(10,(.val (.int .u64 G)))], [(.row (.ints .u32 us) 129 .live),(.row (.ints .u32 qs) 129 .live)])) else some (.normal,ao 194 [(0,(.sl false 129 0 0 us.length)),(1,(.lst false 129 vs.length (lim vs))),(2,(.val (.int .i64 i))),(7,(.val (.int .i64 k))),(9,(.val (.int .u64 I))),(10,(.val (.int .u64 G)))], [(.row (.ints .u32 us) 129 .live),(.row (.ints .u32 qs) 129 .live)])) else none) else none) else none);
  (eL Tryz.prog bg 2 172 [0,1,2,7,9,10] (lb 172 eD) (false :: eD) (eP us vs i k g r qs) (dZ us vs i k g r qs)=(bif decide ((0:Int) < g.fdiv (4294967296:Int)) then J else (bif decide (r.fdiv (4294967296:Int)=(0:Int)) then (bif ah IntKind.i64 (k - (2:Int)) then (bif decide ((0:Int)≤k - (2:Int))&&decide (k - (2:Int) < (↑vs.length:Int)) then (bif ah IntKind.u64 (vs.getD (k - (2:Int)).toNat (0:Int)) then (bif ah IntKind.i64 (i+k) then (bif ah IntKind.i64 (i+k - (2:Int)) then (bif decide ((0:Int)≤i+k - (2:Int))&&decide (i+k - (2:Int) < (↑us.length:Int)) then (bif decide (0+(i+k - (2:Int)).toNat*1 < us.length) then (bif ah IntKind.u64 (us.getD (0+(i+k - (2:Int)).toNat*1) (0:Int)) then (bif decide (b9 BinOp.or IntKind.u64 (IntKind.u64.wrap (r*(4294967296:Int))) (us.getD (0+(i+k - (2:Int)).toNat*1) (0:Int)) < IntKind.u64.wrap (g*vs.getD (k - (2:Int)).toNat (0:Int))) then J else some ((.exit 0),ao 194 [(0,(.sl false 129 0 0 us.length)),(1,(.lst false 129 vs.length (lim vs))),(2,(.val (.int .i64 i))),(7,(.val (.int .i64 k))),(9,(.val (.int .u64 g))),(10,(.val (.int .u64 r)))], [(.row (.ints .u32 us) 129 .live),(.row (.ints .u32 qs) 129 .live)])) else none) else none) else none) else none) else none) else none) else none) else none) else some ((.exit 0),ao 194 [(0,(.sl false 129 0 0 us.length)),(1,(.lst false 129 vs.length (lim vs))),(2,(.val (.int .i64 i))),(7,(.val (.int .i64 k))),(9,(.val (.int .u64 g))),(10,(.val (.int .u64 r)))], [(.row (.ints .u32 us) 129 .live),(.row (.ints .u32 qs) 129 .live)])))):=by kernel_rfl
theorem vG {us vs:List Int} {i k g r:Int} {qs:List Int} {e:Ex} {T:List AV} {H:Hp} (h:eL Tryz.prog bg 2 172 [0,1,2,7,9,10] (lb 172 eD) (false :: eD) (eP us vs i k g r qs) (dZ us vs i k g r qs)=some (e,T,H)):V.Ends Tryz.prog false 2 0 (lb 172 eD) (eP us vs i k g r qs) (dZ us vs i k g r qs) e T H:=
 pF (aK _) aO mixed Ta h
def xz (us vs:List Int) (i:Nat):Nat:=vL us / (4294967296 ^ i*vL vs)
def uA (us vs:List Int) (i k g r:Int) (qs:List Int):Prop:=∃ G J x1 I:Nat,i=G∧k=vs.length∧aH us∧aH vs∧2≤vs.length∧G+vs.length < us.length∧us.length≤17592186044416∧vs.getD (vs.length - 1) 0=I∧2147483648≤I∧
 vL us < 4294967296 ^ (G+1)*vL vs∧us.getD (G+vs.length) 0=J∧us.getD (G+vs.length - 1) 0=x1∧g=((J*4294967296+x1) / I:Nat)∧r=((J*4294967296+x1) % I:Nat)
def yB (us vs:List Int) (i k g r:Int) (qs:List Int) (ρ:Int×Int):Prop:=∃ G:Nat,ρ.1=G∧xz us vs i.toNat≤G∧G≤xz us vs i.toNat+1∧G < 4294967296
theorem WL (us vs qs:List Int) (i:Nat) (hb:i+vs.length < us.length) (e5:us.length≤17592186044416) (fc:2≤vs.length) (J G v2:Nat) (ec:J < 4294967296) (fv:G < 4294967296) (ed:1≤G) (gf:v2 < 4294967296)
  (eh:us.getD (i+vs.length - 2) 0=(J:Int)) (ek:vs.getD (vs.length - 1) 0=(G:Int)) (en:vs.getD (vs.length - 2) 0=(v2:Int))
  (P X Y U:Nat) (et:X < P) (eu:Y < P) (fs:U < 18446744073709551616) (q:Nat) (fh:q < 4294967296) (ez:q*(Y+P*(G*4294967296+v2))≤X+P*(U*4294967296+J)) (eN:X+P*(U*4294967296+J) < (q+1)*(Y+P*(G*4294967296+v2))) (n:Nat):
  ∀ g r:Nat,g=n→g*G+r=U→q≤g→∃ ρ:Int×Int,bN Tryz.prog 2 (lb 172 eD) (eP us vs i vs.length g r qs) (dZ us vs i vs.length g r qs) (.exit 0) (eP us vs i vs.length ρ.1 ρ.2 qs) (dZ us vs i vs.length ρ.1 ρ.2 qs)∧∃ O:Nat,ρ.1=O∧q≤O∧O≤q+1∧O < 4294967296:=by
 have ev:0 < Y+P*(G*4294967296+v2):=by
  have:P*1≤P*(G*4294967296+v2):=Nat.mul_le_mul_left P (by omega)
  omega
 have out:∀ g r:Nat,g < 4294967296→g*G+r=U→g*v2≤r*4294967296+J→g≤q+1:=by
  intro g r Z M bD
  have a6:=WA (X:=X) eu ed Z M bD
  rcases Nat.lt_or_ge (q+1) g with b0 | b0
  ·exfalso
   have ep:=Nat.mul_le_mul_right (Y+P*(G*4294967296+v2)) b0
   rw [Nat.succ_mul] at ep
   omega
  ·exact b0
 have eg:∀ g r:Nat,g < 4294967296→4294967296≤r→g*v2≤r*4294967296+J:=by
  intro g r Z M
  have bD:g*v2≤4294967296*4294967296:=Nat.mul_le_mul (by omega) (by omega)
  have a6:4294967296*4294967296≤r*4294967296:=Nat.mul_le_mul_right _ M
  omega
 have c5:∀ g r:Nat,g*G+r=U→(4294967296≤g∨r*4294967296+J < g*v2)→q+1≤g:=by
  intro g r Z M
  rcases M with M | M
  ·omega
  ·have bD:=WB (Y:=Y) et Z M
   rcases Nat.lt_or_ge q g with a6 | a6
   ·exact a6
   ·exfalso
    have:=Nat.mul_le_mul_right (Y+P*(G*4294967296+v2)) a6
    omega
 clear ez eN ev
 have e1:(vs.length:Int) - 1=((vs.length - 1:Nat):Int):=by omega
 have c6:(vs.length:Int) - 2=((vs.length - 2:Nat):Int):=by omega
 have c7:(i:Int)+(vs.length:Int)=((i+vs.length:Nat):Int):=by omega
 have dx:((i+vs.length:Nat):Int) - 2=((i+vs.length - 2:Nat):Int):=by omega
 have l1:ah .i64 ((vs.length - 1:Nat):Int)=true:=bB _ (by omega)
 have l2:ah .i64 ((vs.length - 2:Nat):Int)=true:=bB _ (by omega)
 have l3:ah .i64 ((i+vs.length:Nat):Int)=true:=bB _ (by omega)
 have l4:ah .i64 ((i+vs.length - 2:Nat):Int)=true:=bB _ (by omega)
 have b4:decide ((0:Int)≤((vs.length - 1:Nat):Int))=true:=dT (by omega)
 have b5:decide ((0:Int)≤((vs.length - 2:Nat):Int))=true:=dT (by omega)
 have b6:decide ((0:Int)≤((i+vs.length - 2:Nat):Int))=true:=dT (by omega)
 have b7:decide (((vs.length - 1:Nat):Int) < (vs.length:Int))=true:=dT (by omega)
 have ch:decide (((vs.length - 2:Nat):Int) < (vs.length:Int))=true:=dT (by omega)
 have ct:decide (((i+vs.length - 2:Nat):Int) < (us.length:Int))=true:=dT (by omega)
 have c0:decide (i+vs.length - 2 < us.length)=true:=dT (by omega)
 have c1:ah .u64 (G:Int)=true:=di (by omega)
 have c2:ah .u64 (v2:Int)=true:=di (by omega)
 have c4:ah .u64 (J:Int)=true:=di (by omega)
 have b3:∀ g r:Nat,_:=fun g r=>aa8 us vs i vs.length g r qs
 simp only [e1,c6,c7,dx,Int.toNat_natCast,Nat.zero_add,Nat.mul_one,l1,l2,l3,l4,b4,b5,b6,b7,ch,ct,c0,ek,en,eh,c1,c2,c4,jq] at b3
 clear e1 c6 c7 dx l1 l2 l3 l4 b4 b5 b6 b7 ch ct c0 c1 c2 c4
 induction n with
 | zero=>
  intro g r b2 aE a7
  subst b2
  have I:=b3 0 r
  rw [dF (show ¬ (0:Int) < ((0 / 4294967296:Nat):Int) by omega)] at I
  refine ⟨((0:Nat),(r:Int)), .last (vG ?_) (by intro h;cases h),0,rfl,a7,by omega,by omega⟩
  by_cases bx:((r / 4294967296:Nat):Int)=0
  ·have e3:r < 4294967296:=by omega
   rw [dT bx,x5 r J e3 ec,← Int.natCast_mul,Nat.zero_mul,eT (a:=0) (by omega),dF (show ¬ ((r*4294967296+J:Nat):Int) < ((0:Nat):Int) by omega)] at I
   rw [I];rfl
  ·rw [dF bx] at I
   rw [I];rfl
 | succ n e4=>
  intro g r b2 aE a7
  have eb:n*G+(r+G)=U:=by rw [← aE,b2,Nat.succ_mul];omega
  have e7:g < 18446744073709551616:=by
   have:=Nat.le_mul_of_pos_right g ed
   omega
  have I:=b3 g r
  have w1:IntKind.u64.wrap ((g:Int) - 1)=((n:Nat):Int):=(GG (by omega) (by omega)).trans (by omega)
  have c3:q+1≤g→
    eL Tryz.prog bg 2 172 [0,1,2,7,9,10] (lb 172 eD) (false :: eD) (eP us vs i vs.length g r qs) (dZ us vs i vs.length g r qs)=(bif decide ((0:Int) < (((r+G) / 4294967296:Nat):Int)) then bif decide (((n / 4294967296:Nat):Int)=0) then some (.exit 0,eP us vs i vs.length n ((r+G:Nat):Int) qs,dZ us vs i vs.length n ((r+G:Nat):Int) qs) else some (.normal,eP us vs i vs.length n ((r+G:Nat):Int) qs,dZ us vs i vs.length n ((r+G:Nat):Int) qs) else some (.normal,eP us vs i vs.length n ((r+G:Nat):Int) qs,dZ us vs i vs.length n ((r+G:Nat):Int) qs))→
    ∃ ρ:Int×Int,bN Tryz.prog 2 (lb 172 eD) (eP us vs i vs.length g r qs) (dZ us vs i vs.length g r qs) (.exit 0) (eP us vs i vs.length ρ.1 ρ.2 qs) (dZ us vs i vs.length ρ.1 ρ.2 qs)∧∃ O:Nat,ρ.1=O∧q≤O∧O≤q+1∧O < 4294967296:=by
   intro a1 b1
   by_cases ab:4294967296≤r+G∧n < 4294967296
   ·rw [dT (show (0:Int) < (((r+G) / 4294967296:Nat):Int) by omega),dT (show ((n / 4294967296:Nat):Int)=0 by omega)] at b1
    exact ⟨((n:Int),((r+G:Nat):Int)), .last (vG b1) (by intro h;cases h),n,rfl,by omega,out n (r+G) ab.2 eb (eg _ _ ab.2 ab.1),ab.2⟩
   ·obtain ⟨ρ,Z,M⟩:=e4 n (r+G) rfl eb (by omega)
    refine ⟨ρ, .more (vG ?_) Z,M⟩
    rw [b1]
    by_cases ea:(0:Int) < (((r+G) / 4294967296:Nat):Int)
    ·rw [dT ea,dF (show ¬ ((n / 4294967296:Nat):Int)=0 by omega)]
     rfl
    ·rw [dF ea]
     rfl
  have dy:q+1≤g→IntKind.u64.wrap ((r:Int)+G)=((r+G:Nat):Int):=fun h=>by
   rw [← Int.natCast_add,eT]
   omega
  by_cases eo:4294967296≤g
  ·have a1:=c5 g r aE (.inl eo)
   rw [dT (show (0:Int) < ((g / 4294967296:Nat):Int) by omega),w1,dy a1,jq,jq] at I
   exact c3 a1 I
  ·rw [dF (show ¬ (0:Int) < ((g / 4294967296:Nat):Int) by omega)] at I
   by_cases bx:4294967296≤r
   ·rw [dF (show ¬ ((r / 4294967296:Nat):Int)=0 by omega)] at I
    exact ⟨((g:Int),(r:Int)), .last (vG I) (by intro h;cases h),g,rfl,a7,out g r (by omega) aE (eg g r (by omega) bx),by omega⟩
   ·have e6:g < 4294967296:=by omega
    have e2:r < 4294967296:=by omega
    have fa:g*v2≤4294967295*4294967295:=Nat.mul_le_mul (by omega) (by omega)
    rw [dT (show ((r / 4294967296:Nat):Int)=0 by omega),x5 r J e2 ec,← Int.natCast_mul g v2,eT (a:=g*v2) (by omega)] at I
    by_cases ab:r*4294967296+J < g*v2
    ·have a1:=c5 g r aE (.inr ab)
     rw [dT (show ((r*4294967296+J:Nat):Int) < ((g*v2:Nat):Int) by omega),w1,dy a1,jq,jq] at I
     exact c3 a1 I
    ·rw [dF (show ¬ ((r*4294967296+J:Nat):Int) < ((g*v2:Nat):Int) by omega)] at I
     exact ⟨((g:Int),(r:Int)), .last (vG I) (by intro h;cases h),g,rfl,a7,out g r (by omega) aE (by omega),by omega⟩
theorem Yf (us vs:List Int) (i k g r:Int) (qs:List Int) (h:uA us vs i k g r qs):∃ ρ:Int×Int,bN Tryz.prog 2 (lb 172 eD) (eP us vs i k g r qs) (dZ us vs i k g r qs) (.exit 0) (eP us vs i k ρ.1 ρ.2 qs) (dZ us vs i k ρ.1 ρ.2 qs)∧yB us vs i k g r qs ρ:=by
 obtain ⟨i,e2,x1,eN,rfl,rfl,O,U,ec,hi,hb,Z,e3,a1,b7,ch,rfl,rfl⟩:=h
 have b0:vs.length - 1 < vs.length:=by omega
 have b1:vs.length - 2 < vs.length:=by omega
 have b3:i+vs.length < us.length:=hi
 have b4:i+vs.length - 1 < us.length:=by omega
 have b5:i+vs.length - 2 < us.length:=by omega
 have eb:i+vs.length+1≤us.length:=by omega
 obtain ⟨I,e4,c5,eu⟩:=cE O _ b3
 obtain ⟨J,e5,c6,ev⟩:=cE O _ b4
 obtain ⟨x2,b6,c7,ez⟩:=cE O _ b5
 obtain ⟨v2,eo,c4,c3⟩:=cE U _ b1
 obtain ⟨G,en,ct,c0⟩:=cE U _ b0
 obtain rfl:I=e2:=by rw [eu] at b7;exact Int.ofNat.inj b7
 obtain rfl:J=x1:=by rw [ev] at ch;exact Int.ofNat.inj ch
 obtain rfl:G=eN:=by rw [c0] at Z;exact Int.ofNat.inj Z
 have dx:=dQ U
 have et:vL (us.drop (i+vs.length+1))=0:=by
  refine Pk _ eb (Nat.lt_of_lt_of_le a1 ?_)
  rw [show i+vs.length+1=(i+1)+vs.length by omega,Nat.pow_add 4294967296 (i+1) vs.length]
  exact Nat.mul_le_mul_left _ (Nat.le_of_lt dx)
 have ek:vL (us.drop (i+vs.length - 2))=(I*4294967296+J)*4294967296+x2:=by
  rw [List.drop_eq_getElem_cons b5,c7,b8,show i+vs.length - 2+1=i+vs.length - 1 by omega,List.drop_eq_getElem_cons b4,c6,b8,show i+vs.length - 1+1=i+vs.length by omega,List.drop_eq_getElem_cons b3,c5,b8,et]
  simp only [Int.toNat_natCast]
  omega
 have ep:vL (vs.drop (vs.length - 2))=G*4294967296+v2:=by
  rw [List.drop_eq_getElem_cons b1,c4,b8,show vs.length - 2+1=vs.length - 1 by omega,List.drop_eq_getElem_cons b0,ct,b8,List.drop_of_length_le (by omega),cC]
  simp only [Int.toNat_natCast]
  omega
 have M:=nm us (i+vs.length - 2) (by omega)
 rw [ek] at M
 have aE:=dQ (nR O (i+vs.length - 2))
 rw [List.length_take,Nat.min_eq_left (by omega)] at aE
 have a7:=nm vs (vs.length - 2) (by omega)
 rw [ep] at a7
 have bD:=dQ (nR U (vs.length - 2))
 rw [List.length_take,Nat.min_eq_left (by omega)] at bD
 have a6:4294967296 ^ (i+vs.length - 2)=4294967296 ^ i*4294967296 ^ (vs.length - 2):=by rw [← Nat.pow_add];exact congrArg (4294967296 ^ ·) (by omega)
 have dy:4294967296 ^ i*vL (vs.take (vs.length - 2)) < 4294967296 ^ (i+vs.length - 2):=by
  rw [a6];exact Nat.mul_lt_mul_of_pos_left bD (Nat.pow_pos (by decide))
 have ab:4294967296 ^ i*vL vs=4294967296 ^ i*vL (vs.take (vs.length - 2))+4294967296 ^ (i+vs.length - 2)*(G*4294967296+v2):=by
  rw [a6,Nat.mul_assoc,← Nat.mul_add,← a7]
 have bx:0 < 4294967296 ^ i*vL vs:=by
  rcases Nat.eq_zero_or_pos (vL vs) with h | h
  ·rw [h,Nat.mul_zero] at a1;omega
  ·exact Nat.mul_pos (Nat.pow_pos (by decide)) h
 have eh:I*4294967296+J < 18446744073709551616:=by omega
 have b2:vL us / (4294967296 ^ i*vL vs)*(4294967296 ^ i*vL vs)≤vL us:=Nat.div_mul_le_self _ _
 have ed:vL us < (vL us / (4294967296 ^ i*vL vs)+1)*(4294967296 ^ i*vL vs):=by
  rw [Nat.add_mul,Nat.one_mul]
  exact Nat.lt_div_mul_add bx
 have eg:vL us / (4294967296 ^ i*vL vs) < 4294967296:=by
  rw [Nat.div_lt_iff_lt_mul bx,← Nat.mul_assoc,Nat.mul_comm 4294967296,← Nat.pow_succ]
  exact a1
 unfold yB xz
 rw [Int.toNat_natCast]
 have ea:=WC (P:=4294967296 ^ (i+vs.length - 2)) (X:=vL (us.take (i+vs.length - 2))) (Y:=4294967296 ^ i*vL (vs.take (vs.length - 2))) (v2:=v2) aE b6 (show 1≤G by omega) (by rw [← M,← ab];exact b2)
 exact WL us vs qs i hi hb ec x2 G v2 b6 en (by omega) eo ez Z c3 (4294967296 ^ (i+vs.length - 2)) (vL (us.take (i+vs.length - 2))) (4294967296 ^ i*vL (vs.take (vs.length - 2))) (I*4294967296+J) aE dy eh _ eg (by rw [← M,← ab];exact b2) (by rw [← M,← ab];exact ed) _ _ ((I*4294967296+J) % G) rfl (by rw [Nat.mul_comm];exact Nat.div_add_mod _ _) ea
def FV (O:List Int→List Int→Int→Int→Int→Int→List Int→Bool) (J:List Int→List Int→Int→Int→Int→Int→List Int→Int×Int) (T:List AV) (H:Hp):Option (Bool×Ex×List AV×Hp):=
 match al T 0,al T 1,al T 2,al T 7,al T 9,al T 10,H with
 | .sl false 129 0 0 M, .lst false 129 I G, .val (.int .i64 i), .val (.int .i64 k), .val (.int .u64 g), .val (.int .u64 r), [.row (.ints .u32 us) 129 .live, .row (.ints .u32 qs) 129 .live]=>bif T.length==194 then some (okB I G&&decide (M=us.length)&&O us (rowOf I G) i k g r qs, .exit 0,eP us (rowOf I G) i k ((J us (rowOf I G) i k g r qs).1) ((J us (rowOf I G) i k g r qs).2) qs,dZ us (rowOf I G) i k ((J us (rowOf I G) i k g r qs).1) ((J us (rowOf I G) i k g r qs).2) qs) else none
 | _,_,_,_,_,_,_=>none
abbrev AN:Type:=List Int→List Int→Int→Int→Int→Int→List Int→Bool
abbrev As:Type:=List Int→List Int→Int→Int→Int→Int→List Int→Int×Int
def Iv (G:AN) (I:As) (L:aD):aD:=bu 2 172 eD [0,1,2,7,9,10] (FV G I) L
def lF (us vs:List Int) (i k g r:Int) (qs:List Int):Int×Int:=Classical.epsilon fun ρ=>bN Tryz.prog 2 (lb 172 eD) (eP us vs i k g r qs) (dZ us vs i k g r qs) (.exit 0) (eP us vs i k (ρ.1) (ρ.2) qs) (dZ us vs i k (ρ.1) (ρ.2) qs)∧yB us vs i k g r qs ρ
theorem Mw (us vs:List Int) (i k g r:Int) (qs:List Int) (h:uA us vs i k g r qs):bN Tryz.prog 2 (lb 172 eD) (eP us vs i k g r qs) (dZ us vs i k g r qs) (.exit 0) (eP us vs i k ((lF us vs i k g r qs).1) ((lF us vs i k g r qs).2) qs) (dZ us vs i k ((lF us vs i k g r qs).1) ((lF us vs i k g r qs).2) qs)∧yB us vs i k g r qs (lF us vs i k g r qs):=Classical.epsilon_spec (Yf us vs i k g r qs h)
def qC (us vs:List Int) (i k g r:Int) (qs:List Int):Bool:= @decide (uA us vs i k g r qs) (Classical.propDecidable _)
theorem T5 (us vs:List Int) (i k g r:Int) (qs:List Int) (h:uA us vs i k g r qs):qC us vs i k g r qs=true:= @decide_eq_true _ (Classical.propDecidable _) h
theorem adf (T:List AV) (H:Hp) (e:Ex) (J:List AV) (I:Hp) (h:FV qC lF T H=some (true,e,J,I)):V.Ends Tryz.prog false 2 0 (.loop (lb 172 eD)) T H e J I:=by
 unfold FV at h
 split at h
 ·rename_i b3 b2 U i k g r us qs Z ab a1 a6 a7 aE
  rw [Bool.cond_eq_ite] at h
  split at h
  ·rename_i M
   rw [beq_iff_eq] at M
   simp only [Option.some.injEq,Prod.mk.injEq,Bool.and_eq_true,decide_eq_true_eq] at h
   obtain ⟨⟨⟨k1,bD⟩,b0⟩,rfl,rfl,rfl⟩:=h
   have b1:= @of_decide_eq_true _ (Classical.propDecidable _) b0
   refine Ends.pre (Mw us (rowOf b2 U) i k g r qs b1).1.ends (fun α B w D b4 bx=>bw M (fun p O y G=> ?_) bx)
   simp only [List.mem_cons,List.not_mem_nil,or_false] at O
   rcases O with rfl | rfl | rfl | rfl | rfl | rfl
   ·rw [Z] at G;rw [← bD];exact G
   ·rw [ab] at G;rw [cz];exact cB cr k1 G
   ·rw [a1] at G;exact G
   ·rw [a6] at G;exact G
   ·rw [a7] at G;exact G
   ·rw [aE] at G;exact G
  ·cases h
 ·cases h
theorem Qd {L:aD} (h:aC Tryz.prog L):aC Tryz.prog (Iv qC lF L):=h.bC Ro adf
end
end Go.Proofs.YtamcpiicmfielaaGreat.L
namespace Go.Proofs.YtamcpiicmfielaaGreat.L
open Go Go.V Go.RowKit Go.Proofs.YtamcpiicmfielaaGreat.Sp Go.Proofs.YtamcpiicmfielaaGreat.F Go.Proofs.YtamcpiicmfielaaGreatW.PrintWords
open Go.Proofs (Tryz.prog)
noncomputable section
abbrev fW:List Bool:= [false,true,false,true,true,true,true,true,true]
def iU (us vs:List Int) (i k g c b:Int) (G:List Int) (n j:Int) (qs:List Int):List AV:=ao 194 [(0, .sl false 129 0 0 us.length),(1, .lst false 129 vs.length (lim vs)),(2, .val (.int .i64 i)),(7, .val (.int .i64 k)),(9, .val (.int .u64 g)),(11, .val (.int .u64 c)),(12, .val (.int .u32 b)),(101, .lst false 129 G.length (lim G)),(102, .val (.int .i64 n)),(103, .val (.int .i64 j))]
def iv (us vs:List Int) (i k g c b:Int) (G:List Int) (n j:Int) (qs:List Int):Hp:= [.row (.ints .u32 us) 129 .live, .row (.ints .u32 qs) 129 .live]
theorem RC:aI Tryz.prog 172 fW=some (.loop (lb 172 fW)):=by kernel_rfl
theorem Tk:aI Tryz.prog 172 (false :: fW)=some (lb 172 fW):=by kernel_rfl
theorem Nt (us vs:List Int) (i k g c b:Int) (G:List Int) (n j:Int) (qs:List Int):letI I:=(IntKind.u64.wrap (c+IntKind.u64.wrap (g*G.getD j.toNat (0:Int))));letI J:=(0+(i+j).toNat*1);
  (eL Tryz.prog ql 2 172 [0,1,2,7,9,11,12,101,102,103] (lb 172 fW) (false :: fW) (iU us vs i k g c b G n j qs) (iv us vs i k g c b G n j qs)=(bif decide (j < n) then (bif decide ((0:Int)≤j)&&decide (j < (↑G.length:Int)) then (bif ah IntKind.u64 (G.getD j.toNat (0:Int)) then (bif ah IntKind.i64 (i+j) then (bif ah IntKind.i64 (i+j) then (bif decide ((0:Int)≤i+j)&&decide (i+j < (↑us.length:Int)) then (bif decide (0+(i+j).toNat*1 < us.length) then (bif bV (us.getD J (0:Int))&&bV (IntKind.u32.wrap I)&&decide ((0:Int)≤b)&&decide (b≤(1:Int)) then (bif decide ((0:Int)≤i+j)&&decide (i+j < (↑us.length:Int)) then (bif decide (0+(i+j).toNat*1 < us.length) then (bif ah IntKind.i64 (j+(1:Int)) then some (.normal,ao 194 [(0,(.sl false 129 0 0 us.length)),(1,(.lst false 129 vs.length (lim vs))),(2,(.val (.int .i64 i))),(7,(.val (.int .i64 k))),(9,(.val (.int .u64 g))),(11,(.val (.int .u64 (I.fdiv (4294967296:Int))))),(12,(.val (.int .u32 (if us.getD J (0:Int) < IntKind.u32.wrap I+b then (1:Int) else (0:Int))))),(101,(.lst false 129 G.length (lim G))),(102,(.val (.int .i64 n))),(103,(.val (.int .i64 (j+(1:Int)))))], [(.row (.ints .u32 (us.set J ((us.getD J (0:Int)+(8589934592:Int) - IntKind.u32.wrap I - b) % (4294967296:Int)))) 129 .live),(.row (.ints .u32 qs) 129 .live)]) else none) else none) else none) else none) else none) else none) else none) else none) else none) else none) else some ((.exit 2),ao 194 [(0,(.sl false 129 0 0 us.length)),(1,(.lst false 129 vs.length (lim vs))),(2,(.val (.int .i64 i))),(7,(.val (.int .i64 k))),(9,(.val (.int .u64 g))),(11,(.val (.int .u64 c))),(12,(.val (.int .u32 b))),(101,(.lst false 129 G.length (lim G))),(102,(.val (.int .i64 n))),(103,(.val (.int .i64 j)))], [(.row (.ints .u32 us) 129 .live),(.row (.ints .u32 qs) 129 .live)]))):=by kernel_rfl
theorem Ol {us vs:List Int} {i k g c b:Int} {G:List Int} {n j:Int} {qs:List Int} {e:Ex} {T:List AV} {H:Hp} (h:eL Tryz.prog ql 2 172 [0,1,2,7,9,11,12,101,102,103] (lb 172 fW) (false :: fW) (iU us vs i k g c b G n j qs) (iv us vs i k g c b G n j qs)=some (e,T,H)):V.Ends Tryz.prog false 2 0 (lb 172 fW) (iU us vs i k g c b G n j qs) (iv us vs i k g c b G n j qs) e T H:=
 pF G1 aO mixed Tk h
def uM (us vs:List Int) (i k g c b:Int) (G:List Int) (n j:Int) (qs:List Int):Prop:=∃ J I:Nat,i=J∧g=I∧I < 4294967296∧aH us∧aH G∧us.length≤17592186044416∧J+G.length < us.length∧c=0∧b=0∧n=G.length∧j=0
def yD (us vs:List Int) (i k g c b:Int) (G:List Int) (n j:Int) (qs:List Int) (r:List Int×Int×Int×Int):Prop:=∃ c' I:Nat,r.2.1=c'∧r.2.2.1=I∧c' < 4294967296∧I≤1∧aH r.1∧r.1.length=us.length∧r.1.drop (i.toNat+G.length)=us.drop (i.toNat+G.length)∧vL r.1+4294967296 ^ i.toNat*(g.toNat*vL G)=vL us+4294967296 ^ (i.toNat+G.length)*(c'+I)
theorem Y6 (vs G qs:List Int) (k:Int) (ek:aH G) (i g:Nat) (e3:g < 4294967296) (d:Nat):∀ (j c b T:Nat) (us:List Int),j+d=G.length→aH us→us.length≤17592186044416→i+G.length < us.length→c < 4294967296→b≤1→
  dR (vL us+4294967296 ^ i*(g*vL (G.take j))=T+4294967296 ^ (i+j)*(c+b))→
  ∃ r:List Int×Int×Int×Int,bN Tryz.prog 2 (lb 172 fW) (iU us vs i k g c b G G.length j qs) (iv us vs i k g c b G G.length j qs) (.exit 2) (iU r.1 vs i k g r.2.1 r.2.2.1 G G.length r.2.2.2 qs) (iv r.1 vs i k g r.2.1 r.2.2.1 G G.length r.2.2.2 qs)∧
   ∃ c' I:Nat,r.2.1=c'∧r.2.2.1=I∧c' < 4294967296∧I≤1∧aH r.1∧r.1.length=us.length∧r.1.drop (i+G.length)=us.drop (i+G.length)∧vL r.1+4294967296 ^ i*(g*vL G)=T+4294967296 ^ (i+G.length)*(c'+I):=by
 induction d with
 | zero=>
  intro j c b T us eb J bD b1 b0 hb U
  have ec:j=G.length:=by omega
  subst ec
  refine ⟨(us,(c:Int),(b:Int),(G.length:Int)), .last (Ol ?_) (by intro h;cases h),c,b,rfl,rfl,b0,hb,J,rfl,rfl, ?_⟩
  ·rw [Nt,dF (show ¬ ((G.length:Int) < G.length) by omega)]
   rfl
  ·have:=U.out
   rw [List.take_length] at this
   exact this
 | succ d b4=>
  intro j c b T us eb J bD b1 b0 hb ab
  have b2:j < G.length:=by omega
  have Z:i+j < us.length:=by omega
  obtain ⟨y,e5,ea,eh⟩:=cE ek j b2
  obtain ⟨x,en,dy,eg⟩:=cE J (i+j) Z
  have M:=dR.mk (kE G j b2)
  rw [ea,Int.toNat_natCast] at M
  have e4:g*y≤4294967295*4294967295:=Nat.mul_le_mul (by omega) (by omega)
  have dx:(c+g*y) / 4294967296 < 4294967296:=by omega
  have ed:(c+g*y) % 4294967296 < 4294967296:=Nat.mod_lt _ (by decide)
  have c4:(x+8589934592 - (c+g*y) % 4294967296 - b) % 4294967296+(c+g*y) % 4294967296+b=x+4294967296*(if x < (c+g*y) % 4294967296+b then 1 else 0):=by
   generalize (c+g*y) % 4294967296=z at*
   split <;> omega
  have a1:(if (x:Int) < (((c+g*y) % 4294967296:Nat):Int)+(b:Int) then (1:Int) else 0)=((if x < (c+g*y) % 4294967296+b then 1 else 0:Nat):Int):=by
   generalize (c+g*y) % 4294967296=z at*
   split <;> split <;> omega
  have a6:((x:Int)+8589934592 - (((c+g*y) % 4294967296:Nat):Int) - (b:Int)) % 4294967296=(((x+8589934592 - (c+g*y) % 4294967296 - b) % 4294967296:Nat):Int):=by
   generalize (c+g*y) % 4294967296=z at*
   omega
  have c7:(if x < (c+g*y) % 4294967296+b then 1 else 0:Nat)≤1:=by split <;> omega
  have c5:(x+8589934592 - (c+g*y) % 4294967296 - b) % 4294967296 < 4294967296:=Nat.mod_lt _ (by decide)
  have b3:=Nt us vs i k g c b G G.length j qs
  have e1:(i:Int)+(j:Int)=((i+j:Nat):Int):=by omega
  rw [e1,Int.toNat_natCast,Int.toNat_natCast,Nat.zero_add,Nat.mul_one,eh,eg,di (show 0≤(y:Int)∧(y:Int)≤18446744073709551615 by omega),bB (i+j) (by omega),aJ (show -9223372036854775808≤(j:Int)+1∧(j:Int)+1≤9223372036854775807 by omega),dT (show (j:Int) < G.length by omega),dT (show (0:Int)≤(j:Int) by omega),dT (show (0:Int)≤((i+j:Nat):Int) by omega),dT (show ((i+j:Nat):Int) < (us.length:Int) by omega),dT Z,
   ← Int.natCast_mul g y,eT (a:=g*y) (by omega),← Int.natCast_add c (g*y),eT (a:=c+g*y) (by omega),dG,fx en,fx ed,dT (show (0:Int)≤(b:Int) by omega),dT (show (b:Int)≤1 by omega),jq,a1,a6] at b3
  clear a1 a6
  generalize e2:(if x < (c+g*y) % 4294967296+b then 1 else 0:Nat)=I at*
  generalize (x+8589934592 - (c+g*y) % 4294967296 - b) % 4294967296=D at*
  have O:=dR.mk (oi us (i+j) Z (D:Int))
  rw [dy,Int.toNat_natCast,Int.toNat_natCast] at O
  obtain ⟨r,bx,c2,b5,g1,g2,b7,ch,ct,c0,c3,a7⟩:=b4 (j+1) ((c+g*y) / 4294967296) I T (us.set (i+j) (D:Int)) (by omega) (fy J _ _ (Int.natCast_nonneg _) (Int.ofNat_lt.2 c5)) (by rw [List.length_set];exact bD) (by rw [List.length_set];exact b1) dx c7 (by
   have U:=ab.out
   have c6:=M.out
   have eN:=O.out
   constructor
   rw [c6,show i+(j+1)=(i+j)+1 from rfl,Nat.pow_succ]
   have e1:4294967296 ^ i*(g*(vL (G.take j)+4294967296 ^ j*y))=4294967296 ^ i*(g*vL (G.take j))+4294967296 ^ (i+j)*(g*y):=by rw [Nat.pow_add];grind
   have b6:4294967296 ^ (i+j)*((c+g*y) % 4294967296)+4294967296 ^ (i+j)*4294967296*((c+g*y) / 4294967296)=4294967296 ^ (i+j)*(c+g*y):=by
    rw [Nat.mul_assoc,← Nat.mul_add,Nat.mod_add_div]
   have aE:=congrArg (4294967296 ^ (i+j)* ·) c4
   simp only [Nat.mul_add] at e1 b6 aE U ⊢
   rw [← Nat.mul_assoc] at aE
   generalize 4294967296 ^ i*(g*(4294967296 ^ j*y))=ez at*
   generalize 4294967296 ^ (i+j)*((c+g*y) % 4294967296)=eo at*
   generalize 4294967296 ^ (i+j)*4294967296*((c+g*y) / 4294967296)=ep at*
   generalize 4294967296 ^ (i+j)*4294967296*I=et at*
   generalize 4294967296 ^ (i+j)*(g*y)=eu at*
   generalize 4294967296 ^ i*(g*vL (G.take j))=ev at*
   omega)
  refine ⟨r, .more (Ol ?_) bx,c2,b5,g1,g2,b7,ch,ct,by rw [c0,List.length_set],by rw [c3,List.drop_set_of_lt (by omega)],a7⟩
  clear bx a7 b4 ab M O
  rw [b3]
  unfold iU iv
  rw [List.length_set]
  rfl
theorem Ys (us vs:List Int) (i k g c b:Int) (G:List Int) (n j:Int) (qs:List Int) (h:uM us vs i k g c b G n j qs):∃ r:List Int×Int×Int×Int,bN Tryz.prog 2 (lb 172 fW) (iU us vs i k g c b G n j qs) (iv us vs i k g c b G n j qs) (.exit 2) (iU r.1 vs i k g r.2.1 r.2.2.1 G n r.2.2.2 qs) (iv r.1 vs i k g r.2.1 r.2.2.1 G n r.2.2.2 qs)∧yD us vs i k g c b G n j qs r:=by
 obtain ⟨i,g,rfl,rfl,I,J,M,hb,hi,rfl,rfl,rfl,rfl⟩:=h
 unfold yD
 rw [Int.toNat_natCast,Int.toNat_natCast]
 exact Y6 vs G qs k M i g I G.length 0 0 0 (vL us) us (by omega) J hb hi (by omega) (by omega) ⟨by rw [List.take_zero,cC];simp⟩
def F8 (Z:List Int→List Int→Int→Int→Int→Int→Int→List Int→Int→Int→List Int→Bool) (O:List Int→List Int→Int→Int→Int→Int→Int→List Int→Int→Int→List Int→List Int×Int×Int×Int) (T:List AV) (H:Hp):Option (Bool×Ex×List AV×Hp):=
 match al T 0,al T 1,al T 2,al T 7,al T 9,al T 11,al T 12,al T 101,al T 102,al T 103,H with
 | .sl false 129 0 0 U, .lst false 129 J G, .val (.int .i64 i), .val (.int .i64 k), .val (.int .u64 g), .val (.int .u64 c), .val (.int .u32 b), .lst false 129 M I, .val (.int .i64 n), .val (.int .i64 j), [.row (.ints .u32 us) 129 .live, .row (.ints .u32 qs) 129 .live]=>bif T.length==194 then some (okB J G&&okB M I&&decide (U=us.length)&&Z us (rowOf J G) i k g c b (rowOf M I) n j qs, .exit 2,iU ((O us (rowOf J G) i k g c b (rowOf M I) n j qs).1) (rowOf J G) i k g ((O us (rowOf J G) i k g c b (rowOf M I) n j qs).2.1) ((O us (rowOf J G) i k g c b (rowOf M I) n j qs).2.2.1) (rowOf M I) n ((O us (rowOf J G) i k g c b (rowOf M I) n j qs).2.2.2) qs,iv ((O us (rowOf J G) i k g c b (rowOf M I) n j qs).1) (rowOf J G) i k g ((O us (rowOf J G) i k g c b (rowOf M I) n j qs).2.1) ((O us (rowOf J G) i k g c b (rowOf M I) n j qs).2.2.1) (rowOf M I) n ((O us (rowOf J G) i k g c b (rowOf M I) n j qs).2.2.2) qs) else none
 | _,_,_,_,_,_,_,_,_,_,_=>none
abbrev AP:Type:=List Int→List Int→Int→Int→Int→Int→Int→List Int→Int→Int→List Int→Bool
abbrev Av:Type:=List Int→List Int→Int→Int→Int→Int→Int→List Int→Int→Int→List Int→List Int×Int×Int×Int
def Iy (G:AP) (I:Av) (L:aD):aD:=bu 2 172 fW [0,1,2,7,9,11,12,101,102,103] (F8 G I) L
def gB (us vs:List Int) (i k g c b:Int) (G:List Int) (n j:Int) (qs:List Int):List Int×Int×Int×Int:=Classical.epsilon fun ρ=>bN Tryz.prog 2 (lb 172 fW) (iU us vs i k g c b G n j qs) (iv us vs i k g c b G n j qs) (.exit 2) (iU (ρ.1) vs i k g (ρ.2.1) (ρ.2.2.1) G n (ρ.2.2.2) qs) (iv (ρ.1) vs i k g (ρ.2.1) (ρ.2.2.1) G n (ρ.2.2.2) qs)∧yD us vs i k g c b G n j qs ρ
theorem ME (us vs:List Int) (i k g c b:Int) (G:List Int) (n j:Int) (qs:List Int) (h:uM us vs i k g c b G n j qs):bN Tryz.prog 2 (lb 172 fW) (iU us vs i k g c b G n j qs) (iv us vs i k g c b G n j qs) (.exit 2) (iU ((gB us vs i k g c b G n j qs).1) vs i k g ((gB us vs i k g c b G n j qs).2.1) ((gB us vs i k g c b G n j qs).2.2.1) G n ((gB us vs i k g c b G n j qs).2.2.2) qs) (iv ((gB us vs i k g c b G n j qs).1) vs i k g ((gB us vs i k g c b G n j qs).2.1) ((gB us vs i k g c b G n j qs).2.2.1) G n ((gB us vs i k g c b G n j qs).2.2.2) qs)∧yD us vs i k g c b G n j qs (gB us vs i k g c b G n j qs):=Classical.epsilon_spec (Ys us vs i k g c b G n j qs h)
def qE (us vs:List Int) (i k g c b:Int) (G:List Int) (n j:Int) (qs:List Int):Bool:= @decide (uM us vs i k g c b G n j qs) (Classical.propDecidable _)
theorem Ui (us vs:List Int) (i k g c b:Int) (G:List Int) (n j:Int) (qs:List Int) (h:uM us vs i k g c b G n j qs):qE us vs i k g c b G n j qs=true:= @decide_eq_true _ (Classical.propDecidable _) h
theorem ads (T:List AV) (H:Hp) (e:Ex) (J:List AV) (I:Hp) (h:F8 qE gB T H=some (true,e,J,I)):V.Ends Tryz.prog false 2 0 (.loop (lb 172 fW)) T H e J I:=by
 unfold F8 at h
 split at h
 ·rename_i c0 ch U i k g c b ct Z n j us qs ab aE b0 b1 b2 bx bD a1 a6 a7
  rw [Bool.cond_eq_ite] at h
  split at h
  ·rename_i M
   rw [beq_iff_eq] at M
   simp only [Option.some.injEq,Prod.mk.injEq,Bool.and_eq_true,decide_eq_true_eq] at h
   obtain ⟨⟨⟨⟨k1,b4⟩,b5⟩,b6⟩,rfl,rfl,rfl⟩:=h
   have b7:= @of_decide_eq_true _ (Classical.propDecidable _) b6
   refine Ends.pre (ME us (rowOf ch U) i k g c b (rowOf ct Z) n j qs b7).1.ends (fun α B w D c3 b3=>bw M (fun p O y G=> ?_) b3)
   simp only [List.mem_cons,List.not_mem_nil,or_false] at O
   rcases O with rfl | rfl | rfl | rfl | rfl | rfl | rfl | rfl | rfl | rfl
   ·rw [ab] at G;rw [← b5];exact G
   ·rw [aE] at G;rw [cz];exact cB cr k1 G
   ·rw [b0] at G;exact G
   ·rw [b1] at G;exact G
   ·rw [b2] at G;exact G
   ·rw [bx] at G;exact G
   ·rw [bD] at G;exact G
   ·rw [a1] at G;rw [cz];exact cB cr b4 G
   ·rw [a6] at G;exact G
   ·rw [a7] at G;exact G
  ·cases h
 ·cases h
theorem Qp {L:aD} (h:aC Tryz.prog L):aC Tryz.prog (Iy qE gB L):=h.bC RC ads
abbrev fR:List Bool:= [false,true,false,true,true,true,true,true,true,true,true,true,true]
def iP (us vs:List Int) (i k g s:Int) (G:List Int) (n j:Int) (qs:List Int):List AV:=ao 194 [(0, .sl false 129 0 0 us.length),(1, .lst false 129 vs.length (lim vs)),(2, .val (.int .i64 i)),(7, .val (.int .i64 k)),(9, .val (.int .u64 g)),(15, .val (.int .u32 s)),(157, .lst false 129 G.length (lim G)),(158, .val (.int .i64 n)),(159, .val (.int .i64 j))]
def iq (us vs:List Int) (i k g s:Int) (G:List Int) (n j:Int) (qs:List Int):Hp:= [.row (.ints .u32 us) 129 .live, .row (.ints .u32 qs) 129 .live]
theorem Re:aI Tryz.prog 172 fR=some (.loop (lb 172 fR)):=by kernel_rfl
theorem SZ:aI Tryz.prog 172 (false :: fR)=some (lb 172 fR):=by kernel_rfl
theorem Ni (us vs:List Int) (i k g s:Int) (G:List Int) (n j:Int) (qs:List Int):letI I:=(0+(i+j).toNat*1);
  (eL Tryz.prog Ai 2 172 [0,1,2,7,9,15,157,158,159] (lb 172 fR) (false :: fR) (iP us vs i k g s G n j qs) (iq us vs i k g s G n j qs)=(bif decide (j < n) then (bif decide ((0:Int)≤j)&&decide (j < (↑G.length:Int)) then (bif ah IntKind.i64 (i+j) then (bif ah IntKind.i64 (i+j) then (bif decide ((0:Int)≤i+j)&&decide (i+j < (↑us.length:Int)) then (bif decide (0+(i+j).toNat*1 < us.length) then (bif bV (us.getD I (0:Int))&&bV (G.getD j.toNat (0:Int))&&bV s&&decide (s≤(1:Int)) then (bif decide ((0:Int)≤i+j)&&decide (i+j < (↑us.length:Int)) then (bif decide (0+(i+j).toNat*1 < us.length) then (bif ah IntKind.i64 (j+(1:Int)) then some (.normal,ao 194 [(0,(.sl false 129 0 0 us.length)),(1,(.lst false 129 vs.length (lim vs))),(2,(.val (.int .i64 i))),(7,(.val (.int .i64 k))),(9,(.val (.int .u64 g))),(15,(.val (.int .u32 ((us.getD I (0:Int)+G.getD j.toNat (0:Int)+s) / (4294967296:Int))))),(157,(.lst false 129 G.length (lim G))),(158,(.val (.int .i64 n))),(159,(.val (.int .i64 (j+(1:Int)))))], [(.row (.ints .u32 (us.set I ((us.getD I (0:Int)+G.getD j.toNat (0:Int)+s) % (4294967296:Int)))) 129 .live),(.row (.ints .u32 qs) 129 .live)]) else none) else none) else none) else none) else none) else none) else none) else none) else none) else some ((.exit 4),ao 194 [(0,(.sl false 129 0 0 us.length)),(1,(.lst false 129 vs.length (lim vs))),(2,(.val (.int .i64 i))),(7,(.val (.int .i64 k))),(9,(.val (.int .u64 g))),(15,(.val (.int .u32 s))),(157,(.lst false 129 G.length (lim G))),(158,(.val (.int .i64 n))),(159,(.val (.int .i64 j)))], [(.row (.ints .u32 us) 129 .live),(.row (.ints .u32 qs) 129 .live)]))):=by kernel_rfl
theorem Oe {us vs:List Int} {i k g s:Int} {G:List Int} {n j:Int} {qs:List Int} {e:Ex} {T:List AV} {H:Hp} (h:eL Tryz.prog Ai 2 172 [0,1,2,7,9,15,157,158,159] (lb 172 fR) (false :: fR) (iP us vs i k g s G n j qs) (iq us vs i k g s G n j qs)=some (e,T,H)):V.Ends Tryz.prog false 2 0 (lb 172 fR) (iP us vs i k g s G n j qs) (iq us vs i k g s G n j qs) e T H:=
 pF PT aO mixed SZ h
def uo (us vs:List Int) (i k g s:Int) (G:List Int) (n j:Int) (qs:List Int):Prop:=∃ I:Nat,i=I∧aH us∧aH G∧us.length≤17592186044416∧I+G.length < us.length∧s=0∧n=G.length∧j=0
def yy (us vs:List Int) (i k g s:Int) (G:List Int) (n j:Int) (qs:List Int) (r:List Int×Int×Int):Prop:=∃ I:Nat,r.2.1=I∧I≤1∧aH r.1∧r.1.length=us.length∧r.1.drop (i.toNat+G.length)=us.drop (i.toNat+G.length)∧vL r.1+4294967296 ^ (i.toNat+G.length)*I=vL us+4294967296 ^ i.toNat*vL G
theorem QQ (vs G qs:List Int) (k g:Int) (c7:aH G) (i d:Nat):∀ (j s T:Nat) (us:List Int),j+d=G.length→aH us→us.length≤17592186044416→i+G.length < us.length→s≤1→
  dR (vL us+4294967296 ^ (i+j)*s=T+4294967296 ^ i*vL (G.take j))→
  ∃ r:List Int×Int×Int,bN Tryz.prog 2 (lb 172 fR) (iP us vs i k g s G G.length j qs) (iq us vs i k g s G G.length j qs) (.exit 4) (iP r.1 vs i k g r.2.1 G G.length r.2.2 qs) (iq r.1 vs i k g r.2.1 G G.length r.2.2 qs)∧
   ∃ U:Nat,r.2.1=U∧U≤1∧aH r.1∧r.1.length=us.length∧r.1.drop (i+G.length)=us.drop (i+G.length)∧vL r.1+4294967296 ^ (i+G.length)*U=T+4294967296 ^ i*vL G:=by
 induction d with
 | zero=>
  intro j s T us ct I a6 a7 b0 a1
  have c0:j=G.length:=by omega
  subst c0
  refine ⟨(us,(s:Int),(G.length:Int)), .last (Oe ?_) (by intro h;cases h),s,rfl,b0,I,rfl,rfl, ?_⟩
  ·rw [Ni,dF (show ¬ ((G.length:Int) < G.length) by omega)]
   rfl
  ·have:=a1.out
   rw [List.take_length] at this
   exact this
 | succ d b1=>
  intro j s T us ct I a6 a7 b0 Z
  have bx:j < G.length:=by omega
  have O:i+j < us.length:=by omega
  obtain ⟨y,dy,ch,c5⟩:=cE c7 j bx
  obtain ⟨x,dx,b7,c4⟩:=cE I (i+j) O
  have J:=dR.mk (kE G j bx)
  rw [ch,Int.toNat_natCast] at J
  have c3:(x+y+s) % 4294967296 < 4294967296:=Nat.mod_lt _ (by decide)
  have c6:(x+y+s) / 4294967296≤1:=by omega
  have M:=dR.mk (oi us (i+j) O (((x+y+s) % 4294967296:Nat):Int))
  rw [b7,Int.toNat_natCast,Int.toNat_natCast] at M
  obtain ⟨r,aE,ea,g1,g2,b3,b4,b5,ab⟩:=b1 (j+1) ((x+y+s) / 4294967296) T (us.set (i+j) (((x+y+s) % 4294967296:Nat):Int)) (by omega) (fy I _ _ (Int.natCast_nonneg _) (Int.ofNat_lt.2 c3)) (by rw [List.length_set];exact a6) (by rw [List.length_set];exact a7) c6 (by
   have a1:=Z.out
   have b6:=J.out
   have eg:=M.out
   constructor
   rw [b6,show i+(j+1)=(i+j)+1 from rfl,Nat.pow_succ]
   have e1:4294967296 ^ i*(vL (G.take j)+4294967296 ^ j*y)=4294967296 ^ i*vL (G.take j)+4294967296 ^ (i+j)*y:=by rw [Nat.pow_add];grind
   have b2:4294967296 ^ (i+j)*((x+y+s) % 4294967296)+4294967296 ^ (i+j)*4294967296*((x+y+s) / 4294967296)=4294967296 ^ (i+j)*(x+y+s):=by
    rw [Nat.mul_assoc,← Nat.mul_add,Nat.mod_add_div]
   simp only [Nat.mul_add] at b2 ⊢
   simp only [Nat.mul_add] at e1
   rw [e1]
   generalize 4294967296 ^ (i+j)*((x+y+s) % 4294967296)=eb at*
   generalize 4294967296 ^ (i+j)*4294967296*((x+y+s) / 4294967296)=ec at*
   generalize 4294967296 ^ i*vL (G.take j)=ed at*
   omega)
  refine ⟨r, .more (Oe ?_) aE,ea,g1,g2,b3,by rw [b4,List.length_set],by rw [b5,List.drop_set_of_lt (by omega)],ab⟩
  clear aE ab b1 Z J M
  have bD:=Ni us vs i k g s G G.length j qs
  have e1:(i:Int)+(j:Int)=((i+j:Nat):Int):=by omega
  rw [e1,Int.toNat_natCast,Int.toNat_natCast,Nat.zero_add,Nat.mul_one,c5,c4,bB (i+j) (by omega),aJ (show -9223372036854775808≤(j:Int)+1∧(j:Int)+1≤9223372036854775807 by omega),dT (show (j:Int) < G.length by omega),dT (show (0:Int)≤(j:Int) by omega),dT (show (0:Int)≤((i+j:Nat):Int) by omega),dT (show ((i+j:Nat):Int) < (us.length:Int) by omega),dT O,fx dx,fx dy,fx (show s < 4294967296 by omega),dT (show (s:Int)≤1 by omega)] at bD
  rw [bD]
  unfold iP iq
  rw [List.length_set]
  rfl
theorem X5 (us vs:List Int) (i k g s:Int) (G:List Int) (n j:Int) (qs:List Int) (h:uo us vs i k g s G n j qs):∃ r:List Int×Int×Int,bN Tryz.prog 2 (lb 172 fR) (iP us vs i k g s G n j qs) (iq us vs i k g s G n j qs) (.exit 4) (iP r.1 vs i k g r.2.1 G n r.2.2 qs) (iq r.1 vs i k g r.2.1 G n r.2.2 qs)∧yy us vs i k g s G n j qs r:=by
 obtain ⟨i,rfl,I,J,hb,hi,rfl,rfl,rfl⟩:=h
 unfold yy
 rw [Int.toNat_natCast]
 exact QQ vs G qs k g J i G.length 0 0 (vL us) us (by omega) I hb hi (by omega) ⟨by rw [List.take_zero,cC];simp⟩
def FK (Z:List Int→List Int→Int→Int→Int→Int→List Int→Int→Int→List Int→Bool) (O:List Int→List Int→Int→Int→Int→Int→List Int→Int→Int→List Int→List Int×Int×Int) (T:List AV) (H:Hp):Option (Bool×Ex×List AV×Hp):=
 match al T 0,al T 1,al T 2,al T 7,al T 9,al T 15,al T 157,al T 158,al T 159,H with
 | .sl false 129 0 0 U, .lst false 129 J G, .val (.int .i64 i), .val (.int .i64 k), .val (.int .u64 g), .val (.int .u32 s), .lst false 129 M I, .val (.int .i64 n), .val (.int .i64 j), [.row (.ints .u32 us) 129 .live, .row (.ints .u32 qs) 129 .live]=>bif T.length==194 then some (okB J G&&okB M I&&decide (U=us.length)&&Z us (rowOf J G) i k g s (rowOf M I) n j qs, .exit 4,iP ((O us (rowOf J G) i k g s (rowOf M I) n j qs).1) (rowOf J G) i k g ((O us (rowOf J G) i k g s (rowOf M I) n j qs).2.1) (rowOf M I) n ((O us (rowOf J G) i k g s (rowOf M I) n j qs).2.2) qs,iq ((O us (rowOf J G) i k g s (rowOf M I) n j qs).1) (rowOf J G) i k g ((O us (rowOf J G) i k g s (rowOf M I) n j qs).2.1) (rowOf M I) n ((O us (rowOf J G) i k g s (rowOf M I) n j qs).2.2) qs) else none
 | _,_,_,_,_,_,_,_,_,_=>none
abbrev AL:Type:=List Int→List Int→Int→Int→Int→Int→List Int→Int→Int→List Int→Bool
abbrev Aq:Type:=List Int→List Int→Int→Int→Int→Int→List Int→Int→Int→List Int→List Int×Int×Int
def It (G:AL) (I:Aq) (L:aD):aD:=bu 2 172 fR [0,1,2,7,9,15,157,158,159] (FK G I) L
def iK (us vs:List Int) (i k g s:Int) (G:List Int) (n j:Int) (qs:List Int):List Int×Int×Int:=Classical.epsilon fun ρ=>bN Tryz.prog 2 (lb 172 fR) (iP us vs i k g s G n j qs) (iq us vs i k g s G n j qs) (.exit 4) (iP (ρ.1) vs i k g (ρ.2.1) G n (ρ.2.2) qs) (iq (ρ.1) vs i k g (ρ.2.1) G n (ρ.2.2) qs)∧yy us vs i k g s G n j qs ρ
theorem Mo (us vs:List Int) (i k g s:Int) (G:List Int) (n j:Int) (qs:List Int) (h:uo us vs i k g s G n j qs):bN Tryz.prog 2 (lb 172 fR) (iP us vs i k g s G n j qs) (iq us vs i k g s G n j qs) (.exit 4) (iP ((iK us vs i k g s G n j qs).1) vs i k g ((iK us vs i k g s G n j qs).2.1) G n ((iK us vs i k g s G n j qs).2.2) qs) (iq ((iK us vs i k g s G n j qs).1) vs i k g ((iK us vs i k g s G n j qs).2.1) G n ((iK us vs i k g s G n j qs).2.2) qs)∧yy us vs i k g s G n j qs (iK us vs i k g s G n j qs):=Classical.epsilon_spec (X5 us vs i k g s G n j qs h)
def qB (us vs:List Int) (i k g s:Int) (G:List Int) (n j:Int) (qs:List Int):Bool:= @decide (uo us vs i k g s G n j qs) (Classical.propDecidable _)
theorem TS (us vs:List Int) (i k g s:Int) (G:List Int) (n j:Int) (qs:List Int) (h:uo us vs i k g s G n j qs):qB us vs i k g s G n j qs=true:= @decide_eq_true _ (Classical.propDecidable _) h
theorem ac3 (T:List AV) (H:Hp) (e:Ex) (J:List AV) (I:Hp) (h:FK qB iK T H=some (true,e,J,I)):V.Ends Tryz.prog false 2 0 (.loop (lb 172 fR)) T H e J I:=by
 unfold FK at h
 split at h
 ·rename_i ct b7 U i k g s ch Z n j us qs ab aE bD b0 b1 a1 a6 a7 bx
  rw [Bool.cond_eq_ite] at h
  split at h
  ·rename_i M
   rw [beq_iff_eq] at M
   simp only [Option.some.injEq,Prod.mk.injEq,Bool.and_eq_true,decide_eq_true_eq] at h
   obtain ⟨⟨⟨⟨k1,b3⟩,b4⟩,b5⟩,rfl,rfl,rfl⟩:=h
   have b6:= @of_decide_eq_true _ (Classical.propDecidable _) b5
   refine Ends.pre (Mo us (rowOf b7 U) i k g s (rowOf ch Z) n j qs b6).1.ends (fun α B w D c0 b2=>bw M (fun p O y G=> ?_) b2)
   simp only [List.mem_cons,List.not_mem_nil,or_false] at O
   rcases O with rfl | rfl | rfl | rfl | rfl | rfl | rfl | rfl | rfl
   ·rw [ab] at G;rw [← b4];exact G
   ·rw [aE] at G;rw [cz];exact cB cr k1 G
   ·rw [bD] at G;exact G
   ·rw [b0] at G;exact G
   ·rw [b1] at G;exact G
   ·rw [a1] at G;exact G
   ·rw [a6] at G;rw [cz];exact cB cr b3 G
   ·rw [a7] at G;exact G
   ·rw [bx] at G;exact G
  ·cases h
 ·cases h
theorem P3 {L:aD} (h:aC Tryz.prog L):aC Tryz.prog (It qB iK L):=h.bC Re ac3
end
end Go.Proofs.YtamcpiicmfielaaGreat.L
namespace Go.Proofs.YtamcpiicmfielaaGreat.L
open Go Go.V Go.RowKit Go.Proofs.YtamcpiicmfielaaGreat.Sp Go.Proofs.YtamcpiicmfielaaGreat.F Go.Proofs.YtamcpiicmfielaaGreatW.PrintWords
open Go.Proofs (Tryz.prog)
noncomputable section
def Ak (G:AN) (M:As) (I:AP) (O:Av) (J:AL) (U:Aq):Env:= ⟨au 154 zK aM,az,Iv G M (Iy I O (It J U aq))⟩
abbrev eB:List Bool:= [false,true,false,true,true,true,true,true,true]
def eM (k0:Int) (us vs qs:List Int) (i:Int):List AV:=ao 73 [(8, .val (.int .i64 k0)),(9, .sl false 129 0 0 us.length),(10, .lst false 129 vs.length (lim vs)),(11, .sl false 129 1 0 qs.length),(12, .val (.int .i64 i))]
def dX (k0:Int) (us vs qs:List Int) (i:Int):Hp:= [.row (.ints .u32 us) 129 .live, .row (.ints .u32 qs) 129 .live]
theorem Rl:aI Tryz.prog 152 eB=some (.loop (lb 152 eB)):=by kernel_rfl
theorem S7:aI Tryz.prog 152 (false :: eB)=some (lb 152 eB):=by kernel_rfl
theorem No (bx:AN) (b1:As) (bD:AP) (b2:Av) (b0:AL) (b3:Aq) (k0:Int) (us vs qs:List Int) (i:Int):letI M:=(rowOf vs.length (lim vs));letI G:=(rowOf M.length (lim M));letI J:=(i+(↑vs.length:Int));letI O:=(0+J.toNat*1);letI a1:=(i+(↑vs.length:Int) - (1:Int));letI a6:=(b9 BinOp.or IntKind.u64 (IntKind.u64.wrap (us.getD O (0:Int)*(4294967296:Int))) (us.getD (0+a1.toNat*1) (0:Int)));letI aE:=((↑vs.length:Int) - (1:Int));letI ab:=(vs.getD aE.toNat (0:Int));letI Z:=(b1 us M i (↑vs.length:Int) (IntKind.u64.wrap (a6.tdiv ab)) (a6.tmod ab) qs);letI I:=(b2 us G i (↑vs.length:Int) Z.fst (0:Int) (0:Int) G (↑M.length:Int) (0:Int) qs);letI a7:=(I.fst.set O ((I.fst.getD O (0:Int)+(8589934592:Int) - IntKind.u32.wrap I.snd.fst - I.snd.snd.fst) % (4294967296:Int)));letI U:=(b3 a7 (rowOf G.length (lim G)) i (↑vs.length:Int) Z.fst (0:Int) (rowOf G.length (lim G)) (↑G.length:Int) (0:Int) qs);
  (aP Tryz.prog (Ak bx b1 bD b2 b0 b3) 152 [8,9,10,11,12] (lb 152 eB) (false :: eB) (eM k0 us vs qs i) (dX k0 us vs qs i)=(bif decide ((0:Int)≤i) then (bif decide (0+us.length*1≤us.length) then (bif ah IntKind.i64 J then (bif decide ((0:Int)≤i+(↑vs.length:Int))&&decide (i+(↑vs.length:Int) < (↑us.length:Int)) then (bif decide (0+J.toNat*1 < us.length) then (bif ah IntKind.u64 (us.getD O (0:Int)) then (bif ah IntKind.i64 J then (bif ah IntKind.i64 a1 then (bif decide ((0:Int)≤i+(↑vs.length:Int) - (1:Int))&&decide (i+(↑vs.length:Int) - (1:Int) < (↑us.length:Int)) then (bif decide (0+a1.toNat*1 < us.length) then (bif ah IntKind.u64 (us.getD (0+a1.toNat*1) (0:Int)) then (bif ah IntKind.i64 aE then (bif decide ((0:Int)≤(↑vs.length:Int) - (1:Int))&&decide ((↑vs.length:Int) - (1:Int) < (↑vs.length:Int)) then (bif ah IntKind.u64 ab then (bif decide (vs.getD aE.toNat (0:Int)=(0:Int)) then none else (bif ah IntKind.i64 aE then (bif decide ((0:Int)≤(↑vs.length:Int) - (1:Int))&&decide ((↑vs.length:Int) - (1:Int) < (↑vs.length:Int)) then (bif ah IntKind.u64 ab then (bif decide (vs.getD aE.toNat (0:Int)=(0:Int)) then none else (bif okB vs.length (lim vs)&&decide (us.length=us.length)&&bx us M i (↑vs.length:Int) (IntKind.u64.wrap (a6.tdiv ab)) (a6.tmod ab) qs then (bif okB M.length (lim M)&&okB M.length (lim M)&&decide (us.length=us.length)&&bD us G i (↑vs.length:Int) Z.fst (0:Int) (0:Int) G (↑M.length:Int) (0:Int) qs then (bif ah IntKind.i64 J then (bif ah IntKind.i64 J then (bif decide ((0:Int)≤i+(↑vs.length:Int))&&decide (i+(↑vs.length:Int) < (↑I.fst.length:Int)) then (bif decide (0+J.toNat*1 < I.fst.length) then (bif bV (I.fst.getD O (0:Int))&&bV (IntKind.u32.wrap I.snd.fst)&&decide ((0:Int)≤I.snd.snd.fst)&&decide (I.snd.snd.fst≤(1:Int)) then (bif decide ((0:Int)≤i+(↑vs.length:Int))&&decide (i+(↑vs.length:Int) < (↑I.fst.length:Int)) then (bif decide (0+J.toNat*1 < I.fst.length) then (bif decide ((if I.fst.getD O (0:Int) < IntKind.u32.wrap I.snd.fst+I.snd.snd.fst then (1:Int) else (0:Int))=(0:Int)) then (bif decide ((0:Int)≤i)&&decide (i < (↑qs.length:Int)) then (bif decide (0+i.toNat*1 < qs.length) then (bif ah IntKind.i64 (i - (1:Int)) then some (.normal,ao 73 [(8,(.val (.int .i64 k0))),(9,(.sl false 129 0 0 us.length)),(10,(.lst false 129 vs.length (lim vs))),(11,(.sl false 129 1 0 qs.length)),(12,(.val (.int .i64 (i - (1:Int)))))], [(.row (.ints .u32 a7) 129 .live),(.row (.ints .u32 (qs.set (0+i.toNat*1) (IntKind.u32.wrap Z.fst))) 129 .live)]) else none) else none) else none) else (bif okB G.length (lim G)&&okB G.length (lim G)&&decide (I.fst.length=a7.length)&&b0 a7 (rowOf G.length (lim G)) i (↑vs.length:Int) Z.fst (0:Int) (rowOf G.length (lim G)) (↑G.length:Int) (0:Int) qs then (bif ah IntKind.i64 J then (bif decide ((0:Int)≤i+(↑vs.length:Int))&&decide (i+(↑vs.length:Int) < (↑U.fst.length:Int)) then (bif decide (0+J.toNat*1 < U.fst.length) then (bif decide ((0:Int)≤i+(↑vs.length:Int))&&decide (i+(↑vs.length:Int) < (↑U.fst.length:Int)) then (bif decide (0+J.toNat*1 < U.fst.length) then (bif decide ((0:Int)≤i)&&decide (i < (↑qs.length:Int)) then (bif decide (0+i.toNat*1 < qs.length) then (bif ah IntKind.i64 (i - (1:Int)) then some (.normal,ao 73 [(8,(.val (.int .i64 k0))),(9,(.sl false 129 0 0 us.length)),(10,(.lst false 129 vs.length (lim vs))),(11,(.sl false 129 1 0 qs.length)),(12,(.val (.int .i64 (i - (1:Int)))))], [(.row (.ints .u32 (U.fst.set O (IntKind.u32.wrap (U.fst.getD O (0:Int)+U.snd.fst)))) 129 .live),(.row (.ints .u32 (qs.set (0+i.toNat*1) (IntKind.u32.wrap (IntKind.u64.wrap (Z.fst - (1:Int)))))) 129 .live)]) else none) else none) else none) else none) else none) else none) else none) else none) else none)) else none) else none) else none) else none) else none) else none) else none) else none) else none)) else none) else none) else none)) else none) else none) else none) else none) else none) else none) else none) else none) else none) else none) else none) else none) else none) else some ((.exit 0),ao 73 [(8,(.val (.int .i64 k0))),(9,(.sl false 129 0 0 us.length)),(10,(.lst false 129 vs.length (lim vs))),(11,(.sl false 129 1 0 qs.length)),(12,(.val (.int .i64 i)))], [(.row (.ints .u32 us) 129 .live),(.row (.ints .u32 qs) 129 .live)]))):=by kernel_rfl
theorem EY {k0:Int} {us vs qs:List Int} {i:Int} {e:Ex} {T:List AV} {H:Hp} (h:aP Tryz.prog (Ak qC lF qE gB qB iK) 152 [8,9,10,11,12] (lb 152 eB) (false :: eB) (eM k0 us vs qs i) (dX k0 us vs qs i)=some (e,T,H)):V.Ends Tryz.prog false 0 0 (lb 152 eB) (eM k0 us vs qs i) (dX k0 us vs qs i) e T H:=
 bK ((aK _).add Kb) (Qd (Qp (P3 aC.none))).ok mixed S7 h
theorem WG {u w:List Int} {n:Nat} (h:u.drop n=w.drop n):u.getD n 0=w.getD n 0:=by
 have:=congrArg (fun l=>l[0]?) h
 simp only [List.getElem?_drop,Nat.add_zero] at this
 rw [List.getD_eq_getElem?_getD,List.getD_eq_getElem?_getD,this]
theorem UQ (k0:Int) (us vs qs:List Int) (i:Nat) (b4:aH us) (bD:aH vs) (h0:2≤vs.length) (hi:i+vs.length < us.length) (hb:us.length≤17592186044416) (M:Nat) (k2:M < 4294967296) (h8:2147483648≤M) (eh:vs.getD (vs.length - 1) 0=(M:Int)) (aE:vL us < 4294967296 ^ (i+1)*vL vs) (hY:i < qs.length):
  ∃ (q:Nat) (a7:List Int),q < 4294967296∧aH a7∧a7.length=us.length∧vL a7+4294967296 ^ i*(q*vL vs)=vL us∧vL a7 < 4294967296 ^ i*vL vs∧
   V.Ends Tryz.prog false 0 0 (lb 152 eB) (eM k0 us vs qs i) (dX k0 us vs qs i) .normal (eM k0 a7 vs (qs.set i (q:Int)) ((i:Int) - 1)) (dX k0 a7 vs (qs.set i (q:Int)) ((i:Int) - 1)):=by
 have h6:i+vs.length < us.length:=hi
 have h7:i+vs.length - 1 < us.length:=by omega
 have c3:i+vs.length+1≤us.length:=by omega
 obtain ⟨G,e6,kc,eb⟩:=cE b4 _ h6
 obtain ⟨x1,ix,kd,fc⟩:=cE b4 _ h7
 have h5:G*4294967296+x1 < 18446744073709551616:=by omega
 have b1:=dQ bD
 have fa:vL (us.drop (i+vs.length+1))=0:=by
  refine Pk _ c3 (Nat.lt_of_lt_of_le aE ?_)
  rw [show i+vs.length+1=(i+1)+vs.length by omega,Nat.pow_add 4294967296 (i+1) vs.length]
  exact Nat.mul_le_mul_left _ (Nat.le_of_lt b1)
 have bx:0 < 4294967296 ^ i*vL vs:=by
  rcases Nat.eq_zero_or_pos (vL vs) with h | h
  ·rw [h,Nat.mul_zero] at aE;omega
  ·exact Nat.mul_pos (Nat.pow_pos (by decide)) h
 have b3:vL us / (4294967296 ^ i*vL vs)*(4294967296 ^ i*vL vs)≤vL us:=Nat.div_mul_le_self _ _
 have a1:vL us < (vL us / (4294967296 ^ i*vL vs)+1)*(4294967296 ^ i*vL vs):=by
  rw [Nat.add_mul,Nat.one_mul]
  exact Nat.lt_div_mul_add bx
 have e4:vL us / (4294967296 ^ i*vL vs) < 4294967296:=by
  rw [Nat.div_lt_iff_lt_mul bx,← Nat.mul_assoc,Nat.mul_comm 4294967296,← Nat.pow_succ]
  exact aE
 have ez:uA us vs i vs.length ((G*4294967296+x1) / M:Nat) ((G*4294967296+x1) % M:Nat) qs:= ⟨i,G,x1,M,rfl,rfl,b4,bD,h0,hi,hb,eh,h8,aE,eb,fc,rfl,rfl⟩
 obtain ⟨_,g,hS,b2,ch,ct⟩:=Mw _ _ _ _ _ _ _ ez
 unfold xz at b2 ch
 rw [Int.toNat_natCast] at b2 ch
 generalize kz:vL us / (4294967296 ^ i*vL vs)=q at*
 have k1:=T5 _ _ _ _ _ _ _ ez
 have eN:uM us vs i vs.length g 0 0 vs vs.length 0 qs:= ⟨i,g,rfl,rfl,ct,b4,bD,hb,hi,rfl,rfl,rfl,rfl⟩
 obtain ⟨_,c,b,eg,ed,eo,kk,ek,en,b0,Z⟩:=ME _ _ _ _ _ _ _ _ _ _ _ eN
 have iR:=Ui _ _ _ _ _ _ _ _ _ _ _ eN
 rw [Int.toNat_natCast] at b0 Z
 rw [Int.toNat_natCast] at Z
 have J:=No qC lF qE gB qB iK k0 us vs qs i
 have e1:(i:Int)+(vs.length:Int)=((i+vs.length:Nat):Int):=by omega
 have hK:((i+vs.length:Nat):Int) - 1=((i+vs.length - 1:Nat):Int):=by omega
 have hL:(vs.length:Int) - 1=((vs.length - 1:Nat):Int):=by omega
 simp only [j4,e1,hK,hL,Int.toNat_natCast,Nat.zero_add,Nat.mul_one,eb,fc,eh,x5 G x1 e6 ix,
  show Int.tdiv ((G*4294967296+x1:Nat):Int) (M:Int)=(((G*4294967296+x1) / M:Nat):Int) from rfl,show Int.tmod ((G*4294967296+x1:Nat):Int) (M:Int)=(((G*4294967296+x1) % M:Nat):Int) from rfl,eT (a:=(G*4294967296+x1) / M) (Nat.lt_of_le_of_lt (Nat.div_le_self _ _) h5),k1,hS,iR,eg,ed] at J
 generalize gB us vs i vs.length g 0 0 vs vs.length 0 qs=ρ at*
 obtain ⟨I,k5⟩:=ρ
 simp only at ek en b0 Z J eg ed
 have c5:i+vs.length < I.length:=by omega
 have ec:I.getD (i+vs.length) 0=(G:Int):=by rw [WG b0];exact eb
 have hP:I[i+vs.length]=(G:Int):=by
  rw [List.getD_eq_getElem?_getD,List.getElem?_eq_getElem c5,Option.getD_some] at ec
  exact ec
 have hT:(G+8589934592 - c - b) % 4294967296+c+b=G+4294967296*(if G < c+b then 1 else 0):=by
  clear Z aE b3 a1 bx b1 J
  split <;> omega
 have hN:((G:Int)+8589934592 - (c:Int) - (b:Int)) % 4294967296=(((G+8589934592 - c - b) % 4294967296:Nat):Int):=by
  clear Z aE b3 a1 bx b1 J
  omega
 have hU:(G+8589934592 - c - b) % 4294967296 < 4294967296:=Nat.mod_lt _ (by decide)
 have fs:decide ((0:Int)≤(i:Int))=true:=dT (by omega)
 have hn:decide (us.length≤us.length)=true:=dT (by omega)
 have hB:ah .i64 ((i+vs.length:Nat):Int)=true:=bB _ (by omega)
 have hD:decide ((0:Int)≤((i+vs.length:Nat):Int))=true:=dT (by omega)
 have hE:decide (((i+vs.length:Nat):Int) < (us.length:Int))=true:=dT (by omega)
 have hF:decide (i+vs.length < us.length)=true:=dT (by omega)
 have hG:ah .u64 (G:Int)=true:=di (by omega)
 have hI:ah .i64 ((i+vs.length - 1:Nat):Int)=true:=bB _ (by omega)
 have hJ:decide ((0:Int)≤((i+vs.length - 1:Nat):Int))=true:=dT (by omega)
 have fv:decide (((i+vs.length - 1:Nat):Int) < (us.length:Int))=true:=dT (by omega)
 have gf:decide (i+vs.length - 1 < us.length)=true:=dT (by omega)
 have gn:ah .u64 (x1:Int)=true:=di (by omega)
 have hc:ah .i64 ((vs.length - 1:Nat):Int)=true:=bB _ (by omega)
 have hd:decide ((0:Int)≤((vs.length - 1:Nat):Int))=true:=dT (by omega)
 have hf:decide (((vs.length - 1:Nat):Int) < (vs.length:Int))=true:=dT (by omega)
 have hg:ah .u64 (M:Int)=true:=di (by omega)
 have hh:decide ((M:Int)=0)=false:=dF (by omega)
 have hj:decide (us.length=us.length)=true:=dT rfl
 have hl:decide (((i+vs.length:Nat):Int) < (I.length:Int))=true:=dT (by omega)
 have ho:decide (i+vs.length < I.length)=true:=dT c5
 have hq:bV (G:Int)=true:=fx e6
 have hr:IntKind.u32.wrap (c:Int)=(c:Int):=by rw [dG,Nat.mod_eq_of_lt eo]
 have hs:bV (c:Int)=true:=fx eo
 have ht:decide ((0:Int)≤(b:Int))=true:=dT (by omega)
 have hv:decide ((b:Int)≤1)=true:=dT (by omega)
 have hx:decide ((i:Int) < (qs.length:Int))=true:=dT (by omega)
 have hy:decide (i < qs.length)=true:=dT hY
 have hz:ah .i64 ((i:Int) - 1)=true:=aJ (by omega)
 have hA:okB vs.length (lim vs)=true:=iJ bD
 simp only [fs,hn,hB,hD,hE,hF,hG,hI,hJ,fv,gf,gn,hc,hd,hf,hg,hh,hj,hl,ho,ec,hq,hr,hs,ht,hv,hx,hy,hz,hA,hN] at J
 clear fs hn hB hD hE hF hG hI hJ fv gf gn hc hd hf hg hh hj hl ho hq hr hs ht hv hx hy hz hA
 generalize et:(if G < c+b then 1 else 0:Nat)=b5 at*
 generalize kl:(G+8589934592 - c - b) % 4294967296=D at*
 have c4:=oi I (i+vs.length) c5 (D:Int)
 rw [hP,Int.toNat_natCast,Int.toNat_natCast] at c4
 have U:=acS (T:=0) Z c4 hT
 have c7:aH (I.set (i+vs.length) (D:Int)):=fy ek _ _ (Int.natCast_nonneg _) (Int.ofNat_lt.2 hU)
 have a6:(I.set (i+vs.length) (D:Int)).length=us.length:=by rw [List.length_set];exact en
 have hV:∀ w:List Int,w.drop (i+vs.length)=us.drop (i+vs.length)→w.drop (i+vs.length+1)=us.drop (i+vs.length+1):=by
  intro w h9
  have:=congrArg (fun l=>l.drop 1) h9
  simpa [List.drop_drop] using this
 have e7:(I.set (i+vs.length) (D:Int)).drop (i+vs.length+1)=us.drop (i+vs.length+1):=by
  rw [List.drop_set_of_lt (by omega)]
  exact hV _ b0
 have iQ:vL (I.set (i+vs.length) (D:Int)) < 4294967296 ^ (i+vs.length+1):=Pm c7 _ (by rw [a6];exact c3) (by rw [e7];exact fa)
 have b6:∀ z:Nat,4294967296 ^ i*(z*vL vs)=z*(4294967296 ^ i*vL vs):=fun z=>by rw [Nat.mul_left_comm]
 have e3:4294967296 ^ (i+vs.length)*4294967296=4294967296 ^ (i+vs.length+1):=(Nat.pow_succ ..).symm
 rw [b6,e3] at U
 have hM:(if (G:Int) < (c:Int)+(b:Int) then (1:Int) else 0)=(b5:Int):=by
  rw [← et]
  clear Z aE b3 a1 bx b1 J U c4
  split <;> split <;> omega
 have ab:b5=0∨b5=1:=by
  rw [← et]
  by_cases h:G < c+b
  ·right;rw [if_pos h]
  ·left;rw [if_neg h]
 simp only [hM] at J
 rcases ab with ab | ab
 ·-- the guess was right
  rw [ab,Nat.mul_zero,Nat.add_zero] at U
  have c0:=Wl U a1 b2
  refine ⟨g,I.set (i+vs.length) (D:Int),ct,c7,a6,by rw [b6];exact U, ?_,EY ?_⟩
  ·rw [Nat.add_mul,Nat.one_mul] at a1
   rw [← c0] at a1
   omega
  ·rw [ab] at J
   rw [show IntKind.u32.wrap (g:Int)=(g:Int) by rw [dG,Nat.mod_eq_of_lt ct],dT (show ((0:Nat):Int)=0 from rfl)] at J
   rw [J]
   unfold eM dX
   rw [a6,List.length_set]
   rfl
 ·-- the guess was one too great
  rw [ab,Nat.mul_one] at U
  have c0:=Wm U iQ b3 b2 ch
  have e2:uo (I.set (i+vs.length) (D:Int)) vs i vs.length g 0 vs vs.length 0 qs:= ⟨i,rfl,c7,bD,by rw [a6];exact hb,by rw [a6];exact hi,rfl,rfl,rfl⟩
  obtain ⟨_,s,fh,k4,dx,m2,dy,ea⟩:=Mo _ _ _ _ _ _ _ _ _ _ e2
  have jw:=TS _ _ _ _ _ _ _ _ _ _ e2
  rw [Int.toNat_natCast] at dy ea
  rw [ab] at J
  rw [dF (show ¬ ((1:Nat):Int)=0 by omega),jw,fh] at J
  generalize iK (I.set (i+vs.length) (D:Int)) vs i vs.length g 0 vs vs.length 0 qs=kb at*
  obtain ⟨O,k6⟩:=kb
  simp only at dx m2 dy ea J fh
  have c6:i+vs.length < O.length:=by rw [m2,a6];exact hi
  obtain ⟨z,k3,hQ,ka⟩:=cE dx _ c6
  have h4:=oi O (i+vs.length) c6 (((z+s) % 4294967296:Nat):Int)
  rw [hQ,Int.toNat_natCast,Int.toNat_natCast] at h4
  have h3:(z+s) % 4294967296 < 4294967296:=Nat.mod_lt _ (by decide)
  have eu:aH (O.set (i+vs.length) (((z+s) % 4294967296:Nat):Int)):=fy dx _ _ (Int.natCast_nonneg _) (Int.ofNat_lt.2 h3)
  have b7:(O.set (i+vs.length) (((z+s) % 4294967296:Nat):Int)).length=us.length:=by rw [List.length_set,m2,a6]
  have ks:vL (O.set (i+vs.length) (((z+s) % 4294967296:Nat):Int)) < 4294967296 ^ (i+vs.length+1):=by
   refine Pm eu _ (by rw [b7];exact c3) ?_
   rw [List.drop_set_of_lt (by omega)]
   have:=congrArg (fun l=>l.drop 1) dy
   simp only [List.drop_drop] at this
   rw [this,e7]
   exact fa
  have kx:(z+s) / 4294967296≤1:=by omega
  have h2:=Nat.mod_add_div (z+s) 4294967296
  have e5:vL (O.set (i+vs.length) (((z+s) % 4294967296:Nat):Int))+4294967296 ^ (i+vs.length+1)*((z+s) / 4294967296)=vL (I.set (i+vs.length) (D:Int))+4294967296 ^ i*vL vs:=by
   rw [← ea,← e3]
   have ep:=congrArg (4294967296 ^ (i+vs.length)* ·) h2
   simp only [Nat.mul_add] at ep
   rw [← Nat.mul_assoc] at ep
   omega
  have ih:IntKind.u32.wrap ((z:Int)+(s:Int))=(((z+s) % 4294967296:Nat):Int):=by rw [← Int.natCast_add,dG]
  have ie:IntKind.u32.wrap (IntKind.u64.wrap ((g:Int) - 1))=(q:Int):=by
   have:IntKind.u64.wrap ((g:Int) - 1)=((q:Nat):Int):=(GG (by omega) (by omega)).trans (by omega)
   rw [this,dG,Nat.mod_eq_of_lt e4]
  have hW:aP Tryz.prog (Ak qC lF qE gB qB iK) 152 [8,9,10,11,12] (lb 152 eB) (false :: eB) (eM k0 us vs qs i) (dX k0 us vs qs i)=some (.normal,eM k0 (O.set (i+vs.length) (((z+s) % 4294967296:Nat):Int)) vs (qs.set i (q:Int)) ((i:Int) - 1),dX k0 (O.set (i+vs.length) (((z+s) % 4294967296:Nat):Int)) vs (qs.set i (q:Int)) ((i:Int) - 1)):=by
   rw [List.length_set,dT (show I.length=I.length from rfl),dT (show ((i+vs.length:Nat):Int) < (O.length:Int) by omega),dT c6,ka,ih,ie] at J
   rw [J]
   unfold eM dX
   rw [b7,List.length_set]
   rfl
  generalize ev:vL (O.set (i+vs.length) (((z+s) % 4294967296:Nat):Int))=hR at*
  generalize (z+s) / 4294967296=o at*
  have hX:hR+q*(4294967296 ^ i*vL vs)=vL us:=by
   rw [c0,Nat.add_mul,Nat.one_mul] at U
   rcases (show o=0∨o=1 by omega) with h | h
   ·rw [h,Nat.mul_zero,Nat.add_zero] at e5
    omega
   ·rw [h,Nat.mul_one] at e5
    omega
  refine ⟨q,O.set (i+vs.length) (((z+s) % 4294967296:Nat):Int),e4,eu,b7,by rw [b6,ev];exact hX, ?_,EY hW⟩
  rw [ev]
  rw [Nat.add_mul,Nat.one_mul] at a1
  omega
def ux (k0:Int) (us vs qs:List Int) (i:Int):Prop:=∃ G:Nat,aH us∧aH vs∧aH qs∧2≤vs.length∧us.length≤17592186044416∧G < 4294967296∧2147483648≤G∧vs.getD (vs.length - 1) 0=G∧qs.length+vs.length=us.length∧vL us < 4294967296 ^ qs.length*vL vs∧i=(qs.length:Int) - 1
def Dm (k0:Int) (us vs qs:List Int) (i:Int) (r:List Int×List Int×Int):Prop:=aH r.1∧aH r.2.1∧r.1.length=us.length∧r.2.1.length=qs.length∧vL r.2.1=vL us / vL vs∧vL r.1=vL us % vL vs
theorem Vp (k0:Int) (vs:List Int) (b4:aH vs) (b3:2≤vs.length) (J:Nat) (b5:J < 4294967296) (b6:2147483648≤J) (a6:vs.getD (vs.length - 1) 0=(J:Int)) (L:Nat) (c0:L≤17592186044416) (A N:Nat) (d:Nat):
  ∀ (us qs:List Int),aH us→aH qs→us.length=L→qs.length=N→N+vs.length=L→d≤N→vL us < 4294967296 ^ d*vL vs→dR (vL us+4294967296 ^ d*vL (qs.drop d)*vL vs=A)→
  ∃ r:List Int×List Int×Int,aA Tryz.prog (lb 152 eB) (eM k0 us vs qs ((d:Int) - 1)) (dX k0 us vs qs ((d:Int) - 1)) (.exit 0) (eM k0 r.1 vs r.2.1 r.2.2) (dX k0 r.1 vs r.2.1 r.2.2)∧aH r.1∧aH r.2.1∧r.1.length=L∧r.2.1.length=N∧vL r.2.1=A / vL vs∧vL r.1=A % vL vs:=by
 induction d with
 | zero=>
  intro us qs Z O aE U ab b2 I M
  have G:=M.out
  rw [Nat.pow_zero,Nat.one_mul] at I
  rw [Nat.pow_zero,Nat.one_mul,List.drop_zero,Nat.mul_comm] at G
  have e1:A / vL vs=vL qs:=by rw [← G,Nat.add_comm,Nat.mul_add_div (by omega),Nat.div_eq_of_lt I];simp
  have a1:A % vL vs=vL us:=by rw [← G,Nat.add_comm,Nat.mul_add_mod,Nat.mod_eq_of_lt I]
  refine ⟨(us,qs,((0:Nat):Int) - 1), .last (EY ?_) (by intro h;cases h),Z,O,aE,U,e1.symm,a1.symm⟩
  rw [No]
  rfl
 | succ d b7=>
  intro us qs Z O aE U ab b2 I M
  obtain ⟨g,ch,g1,g2,ct,a7,bx,bD⟩:=UQ k0 us vs qs d Z b4 b3 (by omega) (by omega) J b5 b6 a6 I (by omega)
  obtain ⟨r,b0,b1⟩:=b7 ch (qs.set d (g:Int)) g2 (fy O _ _ (Int.natCast_nonneg _) (Int.ofNat_lt.2 g1)) (by omega) (by rw [List.length_set];exact U) ab (by omega) bx (by
   constructor
   have G:=M.out
   rw [← G,← a7,List.drop_eq_getElem_cons (l:=qs.set d _) (by rw [List.length_set];omega),List.getElem_set_self,List.drop_set_of_lt (by omega),b8,Int.toNat_natCast,Nat.pow_succ]
   grind)
  refine ⟨r, ?_,b1⟩
  rw [show ((d+1:Nat):Int) - 1=(d:Int) by omega]
  exact .more bD b0
theorem Yc (k0:Int) (us vs qs:List Int) (i:Int) (h:ux k0 us vs qs i):∃ r:List Int×List Int×Int,aA Tryz.prog (lb 152 eB) (eM k0 us vs qs i) (dX k0 us vs qs i) (.exit 0) (eM k0 r.1 vs r.2.1 r.2.2) (dX k0 r.1 vs r.2.1 r.2.2)∧Dm k0 us vs qs i r:=by
 obtain ⟨a6,Z,ab,U,J,I,aE,a1,G,M,O,rfl⟩:=h
 exact Vp k0 vs ab J a6 aE a1 G us.length I (vL us) qs.length qs.length us qs Z U rfl rfl M (Nat.le_refl _) O ⟨by rw [List.drop_of_length_le (Nat.le_refl _),cC,Nat.mul_zero,Nat.zero_mul];rfl⟩
def FR (U:Int→List Int→List Int→List Int→Int→Bool) (J:Int→List Int→List Int→List Int→Int→List Int×List Int×Int) (T:List AV) (H:Hp):Option (Bool×Ex×List AV×Hp):=
 match al T 8,al T 9,al T 10,al T 11,al T 12,H with
 | .val (.int .i64 k0), .sl false 129 0 0 O, .lst false 129 I G, .sl false 129 1 0 M, .val (.int .i64 i), [.row (.ints .u32 us) 129 .live, .row (.ints .u32 qs) 129 .live]=>bif T.length==73 then some (okB I G&&decide (O=us.length)&&decide (M=qs.length)&&U k0 us (rowOf I G) qs i, .exit 0,eM k0 ((J k0 us (rowOf I G) qs i).1) (rowOf I G) ((J k0 us (rowOf I G) qs i).2.1) ((J k0 us (rowOf I G) qs i).2.2),dX k0 ((J k0 us (rowOf I G) qs i).1) (rowOf I G) ((J k0 us (rowOf I G) qs i).2.1) ((J k0 us (rowOf I G) qs i).2.2)) else none
 | _,_,_,_,_,_=>none
abbrev AM:Type:=Int→List Int→List Int→List Int→Int→Bool
abbrev Ar:Type:=Int→List Int→List Int→List Int→Int→List Int×List Int×Int
def Iu (G:AM) (I:Ar) (L:aD):aD:=bu 0 152 eB [8,9,10,11,12] (FR G I) L
def kR (k0:Int) (us vs qs:List Int) (i:Int):List Int×List Int×Int:=Classical.epsilon fun ρ=>aA Tryz.prog (lb 152 eB) (eM k0 us vs qs i) (dX k0 us vs qs i) (.exit 0) (eM k0 (ρ.1) vs (ρ.2.1) (ρ.2.2)) (dX k0 (ρ.1) vs (ρ.2.1) (ρ.2.2))∧Dm k0 us vs qs i ρ
theorem Mu (k0:Int) (us vs qs:List Int) (i:Int) (h:ux k0 us vs qs i):aA Tryz.prog (lb 152 eB) (eM k0 us vs qs i) (dX k0 us vs qs i) (.exit 0) (eM k0 ((kR k0 us vs qs i).1) vs ((kR k0 us vs qs i).2.1) ((kR k0 us vs qs i).2.2)) (dX k0 ((kR k0 us vs qs i).1) vs ((kR k0 us vs qs i).2.1) ((kR k0 us vs qs i).2.2))∧Dm k0 us vs qs i (kR k0 us vs qs i):=Classical.epsilon_spec (Yc k0 us vs qs i h)
def xg (k0:Int) (us vs qs:List Int) (i:Int):Bool:= @decide (ux k0 us vs qs i) (Classical.propDecidable _)
theorem TZ (k0:Int) (us vs qs:List Int) (i:Int) (h:ux k0 us vs qs i):xg k0 us vs qs i=true:= @decide_eq_true _ (Classical.propDecidable _) h
theorem ada (T:List AV) (H:Hp) (e:Ex) (J:List AV) (I:Hp) (h:FR xg kR T H=some (true,e,J,I)):V.Ends Tryz.prog false 0 0 (.loop (lb 152 eB)) T H e J I:=by
 unfold FR at h
 split at h
 ·rename_i k0 b4 b2 U b3 i us qs a1 a6 Z ab aE
  rw [Bool.cond_eq_ite] at h
  split at h
  ·rename_i M
   rw [beq_iff_eq] at M
   simp only [Option.some.injEq,Prod.mk.injEq,Bool.and_eq_true,decide_eq_true_eq] at h
   obtain ⟨⟨⟨⟨k1,bx⟩,bD⟩,b0⟩,rfl,rfl,rfl⟩:=h
   have b1:= @of_decide_eq_true _ (Classical.propDecidable _) b0
   refine Ends.pre (Mu k0 us (rowOf b2 U) qs i b1).1.ends (fun α B w D b5 a7=>bw M (fun p O y G=> ?_) a7)
   simp only [List.mem_cons,List.not_mem_nil,or_false] at O
   rcases O with rfl | rfl | rfl | rfl | rfl
   ·rw [a1] at G;exact G
   ·rw [a6] at G;rw [← bx];exact G
   ·rw [Z] at G;rw [cz];exact cB cr k1 G
   ·rw [ab] at G;rw [← bD];exact G
   ·rw [aE] at G;exact G
  ·cases h
 ·cases h
theorem Qa {L:aD} (h:aC Tryz.prog L):aC Tryz.prog (Iu xg kR L):=h.bC Rl ada
end
end Go.Proofs.YtamcpiicmfielaaGreat.L
namespace Go.Proofs.YtamcpiicmfielaaGreat.L
open Go Go.V Go.RowKit Go.Proofs.YtamcpiicmfielaaGreat.Sp Go.Proofs.YtamcpiicmfielaaGreat.F Go.Proofs.YtamcpiicmfielaaGreatW.PrintWords
open Go.Proofs (Tryz.prog)
noncomputable section
def GR (S:Sg):FuncId→List AV→Option (Bool×AV):=au 107 (vM S) (au 169 (FE S) (au 140 (zN S) (au 170 (Fp S) (au 158 (zO S) aM))))
theorem PH:bf Tryz.prog (GR aa):=(((((aK _).add Ke).add Vz).add Kd).add V2).add B6
def G3 (S:Sg) (G:AZ) (M:AF) (I:A0) (O:AG) (J:AM) (U:Ar):Env:= ⟨GR S,az,IH G M (II I O (Iu J U aq))⟩
theorem B4 (S:Sg) (bx:AZ) (b1:AF) (bD:A0) (b2:AG) (b0:AM) (b3:Ar) (I G:List Int):letI U:=(↑(S.bl (G.getD ((↑G.length:Int) - (1:Int)).toNat (0:Int)).toNat):Int);letI a6:=((↑I.length:Int)+(1:Int));letI M:=(b1 ((32:Int) - U) (List.replicate a6.toNat (0:Int)) (rowOf I.length (lim I)) (↑I.length:Int) (0:Int));letI ab:=((↑G.length:Int)+(1:Int));letI aE:=(b2 ((32:Int) - U) (List.replicate ab.toNat (0:Int)) (rowOf G.length (lim G)) (↑G.length:Int) (0:Int) M.fst);letI O:=(S.num aE.fst.length (lim aE.fst));letI Z:=((↑M.fst.length:Int) - (↑(S.len O):Int));letI J:=(b3 ((32:Int) - U) M.fst (rowOf (S.len O) (S.row O)) (List.replicate Z.toNat (0:Int)) ((↑Z.toNat:Int) - (1:Int)));letI a1:=(S.num J.fst.length (lim J.fst));letI a7:=(lim [(↑(S.num I.length (lim I) % (G.getD 0 (0:Int)).toNat):Int)]);
  (aG Tryz.prog (G3 S bx b1 bD b2 b0 b3) 10 10 152 [.lst false 129 I.length (lim I), .lst false 129 G.length (lim G)]=(bif S.can I.length (lim I)&&S.can G.length (lim G) then (bif decide (S.cmp (S.num I.length (lim I)) (S.num G.length (lim G)) < (0:Int)) then some (.tup [(.val (.slice .none 0 0)),(.lst false 129 I.length (lim I))]) else (bif decide ((↑G.length:Int)=(1:Int)) then (bif decide ((0:Int) < (↑G.length:Int)) then (bif S.bR I.length (lim I)&&bV (G.getD 0 (0:Int))&&decide ((0:Int) < G.getD 0 (0:Int)) then (bif S.bR 1 a7 then some (.tup [(.lst false 129 (S.len (S.num I.length (lim I) / (G.getD 0 (0:Int)).toNat)) (S.row (S.num I.length (lim I) / (G.getD 0 (0:Int)).toNat))),(.lst false 129 (S.len (S.num 1 a7)) (S.row (S.num 1 a7)))]) else none) else none) else none) else (bif ah IntKind.i64 ((↑G.length:Int) - (1:Int)) then (bif decide ((0:Int)≤(↑G.length:Int) - (1:Int))&&decide ((↑G.length:Int) - (1:Int) < (↑G.length:Int)) then (bif bV (G.getD ((↑G.length:Int) - (1:Int)).toNat (0:Int)) then (bif ah IntKind.i64 a6 then (bif decide ((↑I.length:Int)+(1:Int)≤(↑I.length:Int)+(1:Int))&&decide ((4:Int)*a6≤(281474976710656:Int))&&decide ((↑I.length:Int)+(1:Int)≤(9223372036854775807:Int)) then (bif okB I.length (lim I)&&decide (a6.toNat=(List.replicate a6.toNat (0:Int)).length)&&bx ((32:Int) - U) (List.replicate a6.toNat (0:Int)) (rowOf I.length (lim I)) (↑I.length:Int) (0:Int) then (bif ah IntKind.i64 ab then (bif decide ((↑G.length:Int)+(1:Int)≤(↑G.length:Int)+(1:Int))&&decide ((4:Int)*ab≤(281474976710656:Int))&&decide ((↑G.length:Int)+(1:Int)≤(9223372036854775807:Int)) then (bif okB G.length (lim G)&&decide (ab.toNat=(List.replicate ab.toNat (0:Int)).length)&&bD ((32:Int) - U) (List.replicate ab.toNat (0:Int)) (rowOf G.length (lim G)) (↑G.length:Int) (0:Int) M.fst then (bif decide (0+aE.fst.length*1≤aE.fst.length) then (bif S.bR aE.fst.length (lim aE.fst) then (bif ah IntKind.i64 Z then (bif decide ((0:Int)≤(↑M.fst.length:Int) - (↑(S.len O):Int))&&decide ((↑M.fst.length:Int) - (↑(S.len O):Int)≤(↑M.fst.length:Int) - (↑(S.len O):Int))&&decide ((4:Int)*Z≤(281474976710656:Int))&&decide ((↑M.fst.length:Int) - (↑(S.len O):Int)≤(9223372036854775807:Int)) then (bif ah IntKind.i64 ((↑Z.toNat:Int) - (1:Int)) then (bif okB (S.len O) (S.row O)&&decide (M.fst.length=M.fst.length)&&decide (Z.toNat=(List.replicate Z.toNat (0:Int)).length)&&b0 ((32:Int) - U) M.fst (rowOf (S.len O) (S.row O)) (List.replicate Z.toNat (0:Int)) ((↑Z.toNat:Int) - (1:Int)) then (bif decide (0+J.snd.fst.length*1≤J.snd.fst.length) then (bif S.bR J.snd.fst.length (lim J.snd.fst) then (bif decide (0+J.fst.length*1≤J.fst.length) then (bif S.bR J.fst.length (lim J.fst) then (bif S.bR (S.len a1) (S.row a1)&&decide ((0:Int)≤(32:Int) - U)&&decide ((32:Int) - U≤(32:Int)) then some (.tup [(.lst false 129 (S.len (S.num J.snd.fst.length (lim J.snd.fst))) (S.row (S.num J.snd.fst.length (lim J.snd.fst)))),(.lst false 129 (S.len (S.num (S.len a1) (S.row a1) / 2 ^ ((32:Int) - U).toNat)) (S.row (S.num (S.len a1) (S.row a1) / 2 ^ ((32:Int) - U).toNat)))]) else none) else none) else none) else none) else none) else none) else none) else none) else none) else none) else none) else none) else none) else none) else none) else none) else none) else none) else none) else none))) else none)):=by kernel_rfl
theorem uf {n:Nat} (h:(toL n).length≤17592186044416):aa.bR (toL n).length (lim (toL n))=true:=by
 show (okB (toL n).length (lim (toL n))&&decide ((toL n).length≤17592186044416))=true
 rw [jM,decide_eq_true h];rfl
theorem gI {n:Nat} (h:(toL n).length≤17592186044416):aa.can (toL n).length (lim (toL n))=true:=by
 show (dW (toL n).length (lim (toL n))&&decide ((toL n).length≤17592186044416))=true
 rw [wX,decide_eq_true h];rfl
theorem mw (n:Nat):aa.num (toL n).length (lim (toL n))=n:=my n
theorem BU (a b:Nat):aa.cmp a b=if a < b then -1 else if b < a then 1 else 0:=rfl
abbrev G4:Env:=G3 aa xw mR xx mS xg kR
abbrev divC (a b:Nat):Option AV:=aG Tryz.prog G4 10 10 152 [.lst false 129 (toL a).length (lim (toL a)), .lst false 129 (toL b).length (lim (toL b))]
theorem U0 (a b:Nat) (h:a < b) (ha:(toL a).length≤8796093022208) (hb:(toL b).length≤8796093022208):divC a b=some (.tup [.val (.slice none 0 0), .lst false 129 (toL a).length (lim (toL a))]):=by
 show aG _ _ _ _ _ _=_
 rw [B4,gI (by omega),gI (by omega),mw,mw,BU,if_pos h]
 rfl
theorem div_one (a b:Nat) (h:¬ a < b) (a6:0 < b) (J:(toL b).length=1) (ha:(toL a).length≤8796093022208) (hb:(toL b).length≤8796093022208):divC a b=some (.tup [aa.fP (a / b),aa.fP (a % b)]):=by
 have M:toL b≠ []:=fun e=>by have:=(toL_nil_iff b).1 e;omega
 obtain ⟨t,aE,I,rt⟩:=cE (jN b) 0 (by omega)
 have a1:0 < t:=by
  have:=GD b M
  rw [List.getLast_eq_getElem] at this
  simp only [J] at this
  rw [I] at this
  omega
 have O:b=t:=by
  have G:=nm (toL b) 0 (by omega)
  rw [List.drop_eq_getElem_cons (show 0 < (toL b).length by omega),I,List.drop_of_length_le (by omega),b8,cC,cX] at G
  simp [cC] at G
  exact G
 have U:¬ aa.cmp a b < 0:=by rw [BU,if_neg h];split <;> omega
 have a7:a % t < t:=Nat.mod_lt a a1
 have ab:aa.bR 1 (lim [((a % t:Nat):Int)])=true:=lD (zs:= [((a % t:Nat):Int)]) (by rw [mA];exact ⟨by omega,pg⟩) (by simp)
 have Z:aa.num 1 (lim [((a % t:Nat):Int)])=a % t:=by
  have:=lB [((a % t:Nat):Int)]
  rw [b8,cC,Int.toNat_natCast,Nat.mul_zero,Nat.add_zero] at this
  exact this
 show aG _ _ _ _ _ _=_
 rw [B4]
 simp only [mw,rt,Int.toNat_natCast,Z]
 rw [gI (by omega),gI (by omega),dF U,dT (show ((toL b).length:Int)=1 by omega),dT (show (0:Int) < ((toL b).length:Int) by omega),uf (by omega),fx aE,dT (show (0:Int) < (t:Int) by omega),ab,O]
 rfl
theorem UY (a b:Nat) (dx:¬ a < b) (hN:0 < b) (hM:¬ (toL b).length=1) (ha:(toL a).length≤8796093022208) (hb:(toL b).length≤8796093022208):divC a b=some (.tup [aa.fP (a / b),aa.fP (a % b)]):=by
 have ec:¬ aa.cmp a b < 0:=by rw [BU,if_neg dx];split <;> omega
 have hQ:(toL b).length≤(toL a).length:=kK (Nat.lt_of_le_of_lt (by omega) (ly (Nat.le_refl _)))
 have b4:toL b≠ []:=fun e=>by have:=(toL_nil_iff b).1 e;omega
 have hR:0 < (toL b).length:=List.length_pos_iff.2 b4
 have b5:(toL b).length - 1 < (toL b).length:=by omega
 obtain ⟨t,c0,b1,rt⟩:=cE (jN b) _ b5
 have hT:0 < t:=by
  have:=GD b b4
  rw [List.getLast_eq_getElem,b1] at this
  omega
 have hS:2≤(toL b).length:=by omega
 have hP:aU t≤32:=BD (m:=32) c0
 have dy:0 < aU t:=by
  rcases Nat.eq_zero_or_pos (aU t) with h | h
  ·have:=(lh t).1
   rw [h] at this
   omega
  ·exact h
 have b6:32 - aU t < 32:=by omega
 have b3:2 ^ (32 - aU t)*2 ^ aU t=4294967296:=by rw [← Nat.pow_add,show 32 - aU t+aU t=32 by omega]
 have ed:2 ^ (32 - aU t)*2 ^ (aU t - 1)=2147483648:=by rw [← Nat.pow_add,show 32 - aU t+(aU t - 1)=31 by omega]
 have c3:=Nat.mul_le_mul_left (2 ^ (32 - aU t)) ((lh t).2 dy)
 have eu:=Nat.mul_lt_mul_of_pos_left (lh t).1 (Nat.two_pow_pos (32 - aU t))
 rw [ed] at c3
 rw [b3] at eu
 have en:2 ^ (32 - aU t)≤2 ^ 31:=Nat.pow_le_pow_right (by decide) (by omega)
 have Z:=Nat.two_pow_pos (32 - aU t)
 have eb:=nm (toL b) ((toL b).length - 1) (by omega)
 rw [List.drop_eq_getElem_cons b5,b1,List.drop_of_length_le (by omega),b8,cC,cX,Int.toNat_natCast,Nat.mul_zero,Nat.add_zero] at eb
 have ea:=dQ (nR (jN b) ((toL b).length - 1))
 rw [List.length_take,Nat.min_eq_left (by omega)] at ea
 have a7:4294967296 ^ ((toL b).length - 1)*2147483648≤2 ^ (32 - aU t)*b:=by
  have e:2 ^ (32 - aU t)*(4294967296 ^ ((toL b).length - 1)*t)≤2 ^ (32 - aU t)*b:=Nat.mul_le_mul_left _ (by omega)
  refine Nat.le_trans ?_ e
  rw [Nat.mul_left_comm]
  exact Nat.mul_le_mul_left _ c3
 have eg:2 ^ (32 - aU t)*b < 4294967296 ^ (toL b).length:=by
  have e1:b < 4294967296 ^ ((toL b).length - 1)*(t+1):=by
   rw [Nat.mul_add,Nat.mul_one];omega
  have I:2 ^ (32 - aU t)*(t+1)≤4294967296:=by
   have:t+1≤2 ^ aU t:=(lh t).1
   have:=Nat.mul_le_mul_left (2 ^ (32 - aU t)) this
   rwa [b3] at this
  have J:=Nat.mul_lt_mul_of_pos_left e1 Z
  rw [Nat.mul_left_comm] at J
  have M:=Nat.mul_le_mul_left (4294967296 ^ ((toL b).length - 1)) I
  have a1:4294967296 ^ (toL b).length=4294967296 ^ ((toL b).length - 1)*4294967296:=by rw [← Nat.pow_succ];exact congrArg (fun z=>4294967296 ^ z) (by omega)
  rw [a1]
  exact Nat.lt_of_lt_of_le J M
 have bx:(toL (2 ^ (32 - aU t)*b)).length=(toL b).length:=by
  have b2:=kK eg
  rcases Nat.lt_or_ge (toL (2 ^ (32 - aU t)*b)).length (toL b).length with a6 | a6
  ·exfalso
   have O:=ly (n:=2 ^ (32 - aU t)*b) (m:=(toL b).length - 1) (by omega)
   have U:4294967296 ^ ((toL b).length - 1)*1≤4294967296 ^ ((toL b).length - 1)*2147483648:=Nat.mul_le_mul_left _ (by decide)
   rw [Nat.mul_one] at U
   exact absurd (Nat.lt_of_lt_of_le O (Nat.le_trans U a7)) (Nat.lt_irrefl _)
  ·omega
 have c4:(toL (2 ^ (32 - aU t)*b)).length - 1 < (toL (2 ^ (32 - aU t)*b)).length:=by omega
 obtain ⟨aE,ev,c6,e7⟩:=cE (jN (2 ^ (32 - aU t)*b)) _ c4
 have ez:2147483648≤aE:=by
  have b2:=nm (toL (2 ^ (32 - aU t)*b)) ((toL (2 ^ (32 - aU t)*b)).length - 1) (by omega)
  rw [List.drop_eq_getElem_cons c4,c6,List.drop_of_length_le (by omega),b8,cC,cX,Int.toNat_natCast,Nat.mul_zero,Nat.add_zero] at b2
  have a6:=dQ (nR (jN (2 ^ (32 - aU t)*b)) ((toL (2 ^ (32 - aU t)*b)).length - 1))
  rw [List.length_take,Nat.min_eq_left (by omega)] at a6
  rw [← bx] at a7
  rcases Nat.lt_or_ge aE 2147483648 with O | O
  ·exfalso
   have U:=Nat.mul_le_mul_left (4294967296 ^ ((toL (2 ^ (32 - aU t)*b)).length - 1)) (show aE+1≤2147483648 by omega)
   rw [Nat.mul_add,Nat.mul_one] at U
   omega
  ·exact O
 have b7:u7 ((32 - aU t:Nat):Int) (List.replicate ((toL a).length+1) 0) (toL a) (toL a).length 0:= ⟨jN a,kO _,rfl,by omega,rfl,rfl,_,rfl,b6⟩
 obtain ⟨_,hK,hU,ab⟩:=MU _ _ _ _ _ b7
 have k1:=Uz _ _ _ _ _ b7
 rw [Int.toNat_natCast,cX] at ab
 have e1:(32:Int) - (aa.bl t:Int)=((32 - aU t:Nat):Int):=by
  show (32:Int) - (aU t:Int)=_
  omega
 have I:((toL b).length:Int) - 1=(((toL b).length - 1:Nat):Int):=by omega
 have J:((toL a).length:Int)+1=(((toL a).length+1:Nat):Int):=by omega
 have M:((toL b).length:Int)+1=(((toL b).length+1:Nat):Int):=by omega
 show aG _ _ _ _ _ _=_
 rw [B4]
 simp only [mw,I,Int.toNat_natCast,rt,e1,J,M,j4,List.length_replicate,eq_self,decide_true,Nat.mul_one,Nat.zero_add,k1]
 generalize mR ((32 - aU t:Nat):Int) (List.replicate ((toL a).length+1) 0) (toL a) (toL a).length 0=G at*
 have ch:u9 ((32 - aU t:Nat):Int) (List.replicate ((toL b).length+1) 0) (toL b) (toL b).length 0 G.1:= ⟨jN b,kO _,rfl,by omega,rfl,rfl,_,rfl,b6⟩
 obtain ⟨_,w1,w2,w3⟩:=MV _ _ _ _ _ _ ch
 have eN:=UA _ _ _ _ _ _ ch
 rw [Int.toNat_natCast,cX] at w3
 simp only [eN]
 generalize mS ((32 - aU t:Nat):Int) (List.replicate ((toL b).length+1) 0) (toL b) (toL b).length 0 G.1=Wr at*
 have c7:aa.num Wr.1.length (lim Wr.1)=2 ^ (32 - aU t)*b:=by rw [lB,w3]
 simp only [c7]
 have eh:aa.len (2 ^ (32 - aU t)*b)=(toL b).length:=bx
 have ep:rowOf (aa.len (2 ^ (32 - aU t)*b)) (aa.row (2 ^ (32 - aU t)*b))=toL (2 ^ (32 - aU t)*b):=lO _
 have eo:okB (aa.len (2 ^ (32 - aU t)*b)) (aa.row (2 ^ (32 - aU t)*b))=true:=jM _
 have a1:(G.1.length:Int) - ((aa.len (2 ^ (32 - aU t)*b):Nat):Int)=(((toL a).length+1 - (toL b).length:Nat):Int):=by rw [eh];omega
 simp only [ep,eo,a1,Int.toNat_natCast]
 have et:vL G.1 < 4294967296 ^ ((toL a).length+1 - (toL b).length)*vL (toL (2 ^ (32 - aU t)*b)):=by
  rw [ab,cX]
  have e1:a < 4294967296 ^ (toL a).length:=ly (Nat.le_refl _)
  have I:=Nat.mul_le_mul_left (4294967296 ^ ((toL a).length+1 - (toL b).length)) a7
  rw [← Nat.mul_assoc,← Nat.pow_add,show (toL a).length+1 - (toL b).length+((toL b).length - 1)=(toL a).length by omega] at I
  have J:2 ^ (32 - aU t)*a < 2 ^ (32 - aU t)*4294967296 ^ (toL a).length:=Nat.mul_lt_mul_of_pos_left e1 Z
  have M:2 ^ (32 - aU t)*4294967296 ^ (toL a).length≤4294967296 ^ (toL a).length*2147483648:=by
   rw [Nat.mul_comm];exact Nat.mul_le_mul_left _ en
  exact Nat.lt_of_lt_of_le J (Nat.le_trans M I)
 have ct:ux ((32 - aU t:Nat):Int) G.1 (toL (2 ^ (32 - aU t)*b)) (List.replicate ((toL a).length+1 - (toL b).length) 0) ((((toL a).length+1 - (toL b).length:Nat):Int) - 1):= ⟨aE,hK,jN _,kO _,by omega,by omega,ev,ez,e7,by rw [List.length_replicate,bx];omega,by rw [List.length_replicate];exact et,by rw [List.length_replicate]⟩
 obtain ⟨_,c1,c2,hL,c5,bD,b0⟩:=Mu _ _ _ _ _ ct
 have e2:=TZ _ _ _ _ _ ct
 rw [ab,cX,Nat.mul_div_mul_left _ _ Z] at bD
 rw [ab,cX,Nat.mul_mod_mul_left] at b0
 rw [List.length_replicate] at c5
 simp only [e2,List.length_replicate,eq_self,decide_true]
 generalize kR ((32 - aU t:Nat):Int) G.1 (toL (2 ^ (32 - aU t)*b)) (List.replicate ((toL a).length+1 - (toL b).length) 0) ((((toL a).length+1 - (toL b).length:Nat):Int) - 1)=Q at*
 have ek:(toL (vL Q.1)).length≤17592186044416:=Nat.le_trans (kK (dQ c1)) (by omega)
 have e3:aa.num Q.2.1.length (lim Q.2.1)=a / b:=by rw [lB,bD]
 have n2:aa.num Q.1.length (lim Q.1)=vL Q.1:=lB _
 have e4:aa.num (aa.len (vL Q.1)) (aa.row (vL Q.1))=vL Q.1:=my _
 have e5:vL Q.1 / 2 ^ (32 - aU t)=a % b:=by rw [b0,Nat.mul_div_cancel_left _ Z]
 have e6:aa.bR (aa.len (vL Q.1)) (aa.row (vL Q.1))=true:=uf ek
 have fa:ah .i64 (((toL b).length - 1:Nat):Int)=true:=bB _ (by omega)
 have hh:decide ((0:Int)≤(((toL b).length - 1:Nat):Int))=true:=dT (by omega)
 have hy:decide ((((toL b).length - 1:Nat):Int) < ((toL b).length:Int))=true:=dT (by omega)
 have hD:ah .i64 (((toL a).length+1:Nat):Int)=true:=bB _ (by omega)
 have hE:decide ((((toL a).length+1:Nat):Int)≤(((toL a).length+1:Nat):Int))=true:=dT (by omega)
 have hF:decide ((4:Int)*(((toL a).length+1:Nat):Int)≤281474976710656)=true:=dT (by omega)
 have hG:decide ((((toL a).length+1:Nat):Int)≤9223372036854775807)=true:=dT (by omega)
 have hI:ah .i64 (((toL b).length+1:Nat):Int)=true:=bB _ (by omega)
 have hJ:decide ((((toL b).length+1:Nat):Int)≤(((toL b).length+1:Nat):Int))=true:=dT (by omega)
 have fc:decide ((4:Int)*(((toL b).length+1:Nat):Int)≤281474976710656)=true:=dT (by omega)
 have fh:decide ((((toL b).length+1:Nat):Int)≤9223372036854775807)=true:=dT (by omega)
 have fs:decide (Wr.1.length≤Wr.1.length)=true:=dT (by omega)
 have fv:aa.bR Wr.1.length (lim Wr.1)=true:=lD w1 (by omega)
 have gf:ah .i64 (((toL a).length+1 - (toL b).length:Nat):Int)=true:=bB _ (by omega)
 have gn:decide ((0:Int)≤(((toL a).length+1 - (toL b).length:Nat):Int))=true:=dT (by omega)
 have hc:decide ((((toL a).length+1 - (toL b).length:Nat):Int)≤(((toL a).length+1 - (toL b).length:Nat):Int))=true:=dT (by omega)
 have hd:decide ((4:Int)*(((toL a).length+1 - (toL b).length:Nat):Int)≤281474976710656)=true:=dT (by omega)
 have hf:decide ((((toL a).length+1 - (toL b).length:Nat):Int)≤9223372036854775807)=true:=dT (by omega)
 have hg:ah .i64 ((((toL a).length+1 - (toL b).length:Nat):Int) - 1)=true:=aJ (by omega)
 have hj:decide (Q.2.1.length≤Q.2.1.length)=true:=dT (by omega)
 have hl:aa.bR Q.2.1.length (lim Q.2.1)=true:=lD c2 (by omega)
 have hn:decide (Q.1.length≤Q.1.length)=true:=dT (by omega)
 have ho:aa.bR Q.1.length (lim Q.1)=true:=lD c1 (by omega)
 have hq:decide ((0:Int)≤((32 - aU t:Nat):Int))=true:=dT (by omega)
 have hr:decide (((32 - aU t:Nat):Int)≤32)=true:=dT (by omega)
 have hs:bV (t:Int)=true:=fx c0
 have ht:decide (((toL b).length:Int)=1)=false:=dF (by omega)
 have hv:decide (aa.cmp a b < 0)=false:=dF ec
 have hx:aa.can (toL a).length (lim (toL a))=true:=gI (by omega)
 have hz:aa.can (toL b).length (lim (toL b))=true:=gI (by omega)
 have hA:okB (toL a).length (lim (toL a))=true:=jM a
 have hB:okB (toL b).length (lim (toL b))=true:=jM b
 rw [hx,hz,hv,ht]
 simp only [fa,hh,hy,hD,hE,hF,hG,hI,hJ,fc,fh,fs,fv,gf,gn,hc,hd,hf,hg,hj,hl,hn,ho,hq,hr,hs,hA,hB,e3,n2,e4,e6,e5]
 rfl
def zn (S:Sg) (args:List AV):Option (Bool×AV):=match args with | [.lst _ 129 m f, .lst _ 129 n g]=>some (S.can m f&&S.can n g&&S.br m f&&S.br n g&&decide (0 < S.num n g), .tup [S.fP (S.num m f / S.num n g),S.fP (S.num m f % S.num n g)]) | _=>none
theorem JT:Entry Tryz.prog 152 (zn aa):=by
 refine il (E:=G4) (u:=10) (d:=10) PH (QF (QG (Qa aC.none))).ok (by kernel_rfl) (fun args r h=> ?_)
 unfold zn at h
 split at h
 ·rename_i fl m f b0 n g
  simp only [Option.some.injEq,Prod.mk.injEq,Bool.and_eq_true,decide_eq_true_eq] at h
  obtain ⟨⟨⟨⟨⟨b1,b2⟩,b3⟩,b4⟩,aE⟩,rfl⟩:=h
  obtain ⟨a7,ct,c0,c3,Z⟩:=sL b1
  obtain ⟨bx,c4,c5,c6,ab⟩:=sL b2
  obtain ⟨_,_,M,_⟩:=rr b3
  obtain ⟨_,_,O,_⟩:=rr b4
  rw [Z] at M
  rw [ab] at O
  have U:∀ (B:Nat→Prop) (w:World) (J:List Value),aj Tryz.prog cp B w [.lst fl 129 m f, .lst b0 129 n g] bc J→aj Tryz.prog cp B w [.lst false 129 (toL (aa.num m f)).length (lim (toL (aa.num m f))), .lst false 129 (toL (aa.num n g)).length (lim (toL (aa.num n g)))] bc J:=by
   intro B w J G
   rw [← Z,← ab]
   obtain ⟨y,zs,rfl,q1,q2⟩:=G
   obtain ⟨b7,zs,rfl,b5,b6⟩:=q2
   exact ⟨y,_,rfl,kN a7 q1,b7,_,rfl,kN bx b5,b6⟩
  generalize aa.num m f=a at*
  generalize aa.num n g=b at*
  by_cases I:a < b
  ·refine ⟨_,_,U0 a b I M O,U,fun B w y G=> ?_⟩
   obtain ⟨J,rfl,a6,ch,e1,q1,q2⟩:=G
   refine ⟨J,rfl,a6,ch,e1, ?_, ?_⟩
   ·rw [Nat.div_eq_of_lt I]
    have q1:a6= .slice none 0 0:=q1
    have bD:aa.len 0=0:=by show (toL 0).length=0;rw [toL_zero];rfl
    unfold Sg.fP
    rw [bD]
    exact ⟨none,0,q1,Nat.le_refl _,(fun h=>by cases h), .inl rfl⟩
   ·rw [Nat.mod_eq_of_lt I]
    exact q2
  ·by_cases a1:(toL b).length=1
   ·exact ⟨_,_,div_one a b I aE a1 M O,U,fun B w y G=>G⟩
   ·exact ⟨_,_,UY a b I aE a1 M O,U,fun B w y G=>G⟩
 ·cases h
end
end Go.Proofs.YtamcpiicmfielaaGreat.L
