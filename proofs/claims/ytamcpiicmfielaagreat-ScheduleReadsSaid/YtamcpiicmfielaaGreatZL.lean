import Derived.Test.YtamcpiicmfielaaGreatZV2
import Derived.Test.YtamcpiicmfielaaGreatZP
import Derived.Test.YtamcpiicmfielaaGreatProg
set_option linter.unusedVariables false
set_option linter.unusedSimpArgs false
namespace Go.Proofs.YtamcpiicmfielaaGreat.L
open Go Go.V Go.RowKit Go.Proofs.YtamcpiicmfielaaGreat.Sp Go.Proofs.YtamcpiicmfielaaGreat.F Go.Proofs.YtamcpiicmfielaaGreatW.PrintWords
open Go.Proofs (Tryz.prog)
noncomputable section
def bj:Env:= ⟨fun _ _=>none,fun _=>false,fun _ _ _=>none⟩
noncomputable def lb (g:FuncId) (p:List Bool):Code:=match aJ Tryz.prog g p with | some (.loop c)=>c | _=> .skip
theorem mixed:Tryz.prog.follows .mixedOrders=true:=by kernel_rfl
theorem ON (s:ByteArray):aG s ⟨#[]⟩=decide (s.toList= []):=by
 unfold aG
 rw [show (⟨#[]⟩:ByteArray).data.toList= [] from rfl]
 by_cases h:s.toList= []
 ·rw [decide_eq_true h,(toList_nil s).1 h];rfl
 ·rw [decide_eq_false h]
  have:s.data.toList≠ []:=fun e=>h ((toList_nil s).2 e)
  cases j:s.data.toList with
  | nil=>exact absurd j this
  | cons a l=>rfl
theorem JB (s:ByteArray) (i:Nat) (h:i < s.size):aR s i=bt s (i:Int):=by
 have j:i < s.data.toList.length:=by rw [mr];exact h
 rw [Br j]
 unfold aR
 rw [List.getD_eq_getElem?_getD,List.getElem?_eq_getElem j]
 rfl
theorem acK (s:ByteArray) (a b:Nat):dC s a b=s.extract a b:=by
 apply nj
 unfold dC
 rw [Lib.extract_data]
def mR (s:ByteArray):List AV:= .val (.string s) :: List.replicate 12 .any
theorem acT (s:ByteArray):aN Tryz.prog bj 139 [0] (lb 139 [false,false,true]) [false,false,false,true] (mR s) []=
  (bif !aG s ⟨#[]⟩ then bif decide ((0:Int)≤0)&&decide ((0:Int) < s.size) then bif decide (aR s 0=0) then bif decide ((0:Int)≤1)&&decide ((1:Int)≤s.size) then some (.normal,mR (dC s 1 s.size), []) else none else some (.exit 0,mR s, []) else none else some (.exit 0,mR s, [])):=by kernel_rfl
theorem acQ:aJ Tryz.prog 139 [false,false,true]=some (.loop (lb 139 [false,false,true])):=by kernel_rfl
theorem acR:aJ Tryz.prog 139 [false,false,false,true]=some (lb 139 [false,false,true]):=by kernel_rfl
theorem Fm {s:ByteArray} {e:Ex} {T:List AV} {H:Hp} (h:aN Tryz.prog bj 139 [0] (lb 139 [false,false,true]) [false,false,false,true] (mR s) []=some (e,T,H)):V.Ends Tryz.prog false 0 0 (lb 139 [false,false,true]) (mR s) [] e T H:=
 bw (aH _) aK mixed acR h
theorem OU:∀ (k:Nat) (s r:ByteArray),cD.l0 k s=some r→aw Tryz.prog (lb 139 [false,false,true]) (mR s) [] (.exit 0) (mR r) []
 | 0,s,r,h=>by simp [cD.l0] at h
 | k+1,s,r,h=>by
  rw [cD.l0] at h
  have j:=acT s
  rw [ON] at j
  by_cases G:s.toList= []
  ·rw [if_pos G] at h
   cases h
   rw [decide_eq_true G] at j
   exact .last (Fm j) (by intro h;cases h)
  ·rw [if_neg G] at h
   rw [decide_eq_false G] at j
   by_cases J:0 < (s.size:Int)
   ·rw [if_pos J] at h
    have N:aR s 0=bt s 0:=JB s 0 (by omega)
    rw [N] at j
    simp only [J,decide_true,Bool.not_false,cond,Int.le_refl,Bool.and_self] at j
    by_cases I:bt s 0=0
    ·rw [if_pos I] at h
     by_cases M:1≤(s.size:Int)
     ·rw [if_pos M] at h
      simp only [I,M,decide_true,show ((0:Int)≤1)=True from by simp,Bool.and_self,acK] at j
      exact .more (Fm j) (OU k _ r h)
     ·rw [if_neg M] at h;cases h
    ·rw [if_neg I] at h
     cases h
     simp only [I,decide_false] at j
     exact .last (Fm j) (by intro h;cases h)
   ·rw [if_neg J] at h;cases h
def OT (T:List AV) (H:Hp):Option (Bool×Ex×List AV×Hp):=
 match T,H with
 | [.val (.string s), .any, .any, .any, .any, .any, .any, .any, .any, .any, .any, .any, .any], []=>some (true, .exit 0,mR (az (vS s)), [])
 | _,_=>none
def AN:=mh 139 [false,false,true] [0] OT aq
theorem IP:aB Tryz.prog AN:=aB.none.add acQ (fun T H e I G h=>by
 unfold OT at h
 split at h
 ·cases h
  obtain ⟨k,j⟩:=acU _
  exact OU k _ _ j
 ·cases h)
def Fk (args:List AV):Option (Bool×AV):=match args with | [.val (.string s)]=>some (true, .val (.string (az (vS s)))) | _=>none
def Hk:Env:= ⟨aF,fun _=>false,AN⟩
theorem yR:Entry Tryz.prog 139 Fk:=by
 refine aX (E:=Hk) (u:=10) (d:=10) (aH _) IP.ok mixed (by kernel_rfl) (fun args r h=> ?_)
 unfold Fk at h
 split at h
 ·rename_i s
  cases h
  have:aD Tryz.prog Hk 10 10 139 [.val (.string s)]=some (.val (.string (az (vS s)))):=by kernel_rfl
  exact this
 ·cases h
end
end Go.Proofs.YtamcpiicmfielaaGreat.L
namespace Go.Proofs.YtamcpiicmfielaaGreat.L
open Go Go.V Go.RowKit Go.Proofs.YtamcpiicmfielaaGreat.Sp Go.Proofs.YtamcpiicmfielaaGreat.F Go.Proofs.YtamcpiicmfielaaGreatW.PrintWords
open Go.Proofs (Tryz.prog)
noncomputable section
def numOf:AV→Int
 | .val (.int .u32 z)=>z
 | _=> -1
def rowOf (m:Nat) (f:Nat→Nat→AV):List Int:=(List.range m).map fun j=>numOf (f j 0)
def okB (m:Nat) (f:Nat→Nat→AV):Bool:=(rowOf m f).all fun z=>decide (0≤z)&&decide (z < 4294967296)
def ai (zs:List Int):Nat→Nat→AV:=fun j _=> .val (.int .u32 (zs.getD j 0))
def xz (n:Nat):AV:= .lst false 129 (toL n).length (ai (toL n))
theorem o8 (zs:List Int) {m:Nat} (h:m≤zs.length):rowOf m (ai zs)=zs.take m:=by
 apply List.ext_getElem?
 intro i
 unfold rowOf ai
 rw [List.getElem?_map,List.getElem?_take]
 simp only [numOf]
 by_cases j:i < m
 ·rw [List.getElem?_range j,if_pos j,List.getElem?_eq_getElem (by omega)]
  simp only [Option.map_some,List.getD_eq_getElem?_getD,List.getElem?_eq_getElem (show i < zs.length by omega),Option.getD_some,numOf]
 ·rw [if_neg j,List.getElem?_eq_none (by simpa using j)]
  rfl
theorem lV (n:Nat):rowOf (toL n).length (ai (toL n))=toL n:=by rw [o8 _ (Nat.le_refl _),List.take_length]
theorem eM (m:Nat) (f:Nat→Nat→AV):okB m f=true↔aI (rowOf m f):=by
 unfold okB aI
 rw [List.all_eq_true]
 constructor
 ·intro h x j
  have:=h x j
  simpa using this
 ·intro h x j
  have:=h x j
  simpa using this
theorem jJ (n:Nat):okB (toL n).length (ai (toL n))=true:=by rw [eM,lV];exact jK n
theorem cc (m:Nat) (f:Nat→Nat→AV):(rowOf m f).length=m:=by simp [rowOf]
section
variable {P : Program} {α : Nat → Nat × Nat} {B : Nat → Prop} {w : World} {D : Nat → Prop} {x : Value}
theorem NB {fl:Bool} {t:TypeId} {m:Nat} {f g:Nat→Nat→AV} (a4:P.cellsOf t=1) (a1:∀ j,j < m→f j 0=g j 0) (h:(AV.lst fl t m f).Rel P α B w D x):(AV.lst fl t m g).Rel P α B w D x:=by
 obtain ⟨A,cap,J,N,O,G⟩:=h
 refine ⟨A,cap,J,N,O, ?_⟩
 rcases G with G | ⟨b,o,cs,ty,fr,S,U,Z,ab⟩
 ·exact .inl G
 ·refine .inr ⟨b,o,cs,ty,fr,S,U,Z,fun j k I a2=> ?_⟩
  obtain ⟨y,a0,M⟩:=ab j k I a2
  have a3:k=0:=by omega
  subst a3
  exact ⟨y,a0,by rw [← a1 j I];exact M⟩
theorem cn {fl:Bool} {t:TypeId} {m:Nat} {f:Nat→Nat→AV} (J:P.cellsOf t=1) (N:okB m f=true) (h:(AV.lst fl t m f).Rel P α B w D x):(AV.lst fl t m (ai (rowOf m f))).Rel P α B w D x:=by
 refine NB J (fun G M=> ?_) h
 have I:G < (rowOf m f).length:=by rw [cc];exact M
 have j:=(eM m f).1 N _ (List.getElem_mem I)
 unfold ai
 rw [List.getD_eq_getElem?_getD,List.getElem?_eq_getElem I,Option.getD_some]
 have e:(rowOf m f)[G]=numOf (f G 0):=by simp [rowOf]
 rw [e] at j ⊢
 unfold numOf at j ⊢
 split at j
 ·rename_i z O
  rw [O]
 ·omega
end
theorem im {E:Env} {g:FuncId} (Z:bb Tryz.prog E.C) (ab:cL Tryz.prog E) (a0:fH Tryz.prog g=true) {u d:Nat} {f:List AV→Option (Bool×AV)}
  (h:∀ args r,f args=some (true,r)→∃ j v,aD Tryz.prog E u d g j=some v∧(∀ (B:Nat→Prop) (w:World) (G:List Value),ao Tryz.prog cd B w args bh G→ao Tryz.prog cd B w j bh G)∧(∀ (B:Nat→Prop) (w:World) (y:Value),v.Rel Tryz.prog cd B w bh y→r.Rel Tryz.prog cd B w bh y)):Entry Tryz.prog g f:=by
 intro args r a1 B w a3 U a2
 obtain ⟨j,v,I,J,M⟩:=h args r a1
 refine (p9 Z ab mixed a0 I B w a3 U (J B w _ a2)).mono ?_
 rintro e w' ⟨y,N,O,S⟩
 exact ⟨y,N,O,M B w' y S⟩
def mS (zs:List Int) (m:Nat):List AV:= .lst false 129 m (ai zs) :: List.replicate 20 .any
theorem adZ:aJ Tryz.prog 140 [false,false,true]=some (.loop (lb 140 [false,false,true])):=by kernel_rfl
theorem ad1:aJ Tryz.prog 140 [false,false,false,true]=some (lb 140 [false,false,true]):=by kernel_rfl
theorem O9 (zs:List Int) (m:Nat):aN Tryz.prog bj 140 [0] (lb 140 [false,false,true]) [false,false,false,true] (mS zs m) []=
  (bif decide ((0:Int) < m) then bif aj .i64 ((m:Int) - 1) then bif decide (0≤(m:Int) - 1)&&decide ((m:Int) - 1 < m) then bif decide (zs.getD ((m:Int) - 1).toNat 0=0) then bif aj .i64 ((m:Int) - 1) then bif decide (0≤(m:Int) - 1)&&decide ((m:Int) - 1≤m) then some (.normal,mS zs ((m:Int) - 1).toNat, []) else none else none else some (.exit 0,mS zs m, []) else none else none else some (.exit 0,mS zs m, [])):=by kernel_rfl
theorem GN {zs:List Int} {m:Nat} {e:Ex} {T:List AV} {H:Hp} (h:aN Tryz.prog bj 140 [0] (lb 140 [false,false,true]) [false,false,false,true] (mS zs m) []=some (e,T,H)):V.Ends Tryz.prog false 0 0 (lb 140 [false,false,true]) (mS zs m) [] e T H:=
 bw (aH _) aK mixed ad1 h
theorem eZ {z:Int} (j: -9223372036854775808≤z) (G:z≤9223372036854775807):aj .i64 z=true:=by
 unfold aj
 rw [Bool.and_eq_true,decide_eq_true_eq,decide_eq_true_eq]
 exact ⟨j,G⟩
def kZ (zs:List Int):Nat→Nat
 | 0=>0
 | m+1=>if zs.getD m 0=0 then kZ zs m else m+1
theorem O8 (zs:List Int):∀ (m:Nat),m≤140737488355328→aw Tryz.prog (lb 140 [false,false,true]) (mS zs m) [] (.exit 0) (mS zs (kZ zs m)) []
 | 0,_=> .last (GN (by rw [O9];rfl)) (by intro h;cases h)
 | m+1,I=>by
  have j:=O9 zs (m+1)
  have G:(((m+1:Nat):Int) - 1)=(m:Int):=by omega
  rw [G,eZ (by omega) (by omega),decide_eq_true (show (0:Int) < ((m+1:Nat):Int) by omega),decide_eq_true (show (0:Int)≤(m:Int) by omega),decide_eq_true (show (m:Int) < ((m+1:Nat):Int) by omega),decide_eq_true (show (m:Int)≤((m+1:Nat):Int) by omega),Int.toNat_natCast] at j
  unfold kZ
  by_cases h:zs.getD m 0=0
  ·rw [if_pos h]
   rw [decide_eq_true h] at j
   exact .more (GN j) (O8 zs m (by omega))
  ·rw [if_neg h]
   rw [decide_eq_false h] at j
   exact .last (GN j) (by intro h;cases h)
theorem O5 (zs:List Int):∀ m,kZ zs m≤m
 | 0=>Nat.le_refl _
 | m+1=>by
  unfold kZ
  split
  ·exact Nat.le_trans (O5 zs m) (Nat.le_succ m)
  ·exact Nat.le_refl _
theorem O6 {zs:List Int} (G:aI zs):∀ m,m≤zs.length→zs.take (kZ zs m)=toL (vL (zs.take m))
 | 0,_=>by rw [kZ,List.take_zero,cp,toL_zero]
 | m+1,J=>by
  have j:m < zs.length:=J
  have I:zs.getD m 0=zs[m]:=by rw [List.getD_eq_getElem?_getD,List.getElem?_eq_getElem j];rfl
  have M:zs.take (m+1)=zs.take m ++ [zs[m]]:=by rw [List.take_add_one,List.getElem?_eq_getElem j];rfl
  unfold kZ
  by_cases h:zs.getD m 0=0
  ·rw [if_pos h,O6 G m (by omega),M,mc,show zs[m]=0 by rw [← I];exact h]
   simp [bU,cp]
  ·rw [if_neg h]
   have N:aI (zs.take (m+1)):=fun x O=>G x (List.mem_of_mem_take O)
   refine Cc N (fun _=> ?_)
   rw [List.length_take,Nat.min_eq_left J,M,mc,List.length_take,Nat.min_eq_left (by omega),bU,cp]
   have S:=G _ (List.getElem_mem j)
   have:1≤(zs[m]).toNat:=by
    have:zs[m]≠0:=by rw [← I];exact h
    omega
   simp only [Nat.mul_zero,Nat.add_zero,Nat.add_sub_cancel]
   have:=Nat.mul_le_mul_left (4294967296 ^ m) this
   omega
def O4 (T:List AV) (H:Hp):Option (Bool×Ex×List AV×Hp):=
 match T,H with
 | [.lst false 129 m f, .any, .any, .any, .any, .any, .any, .any, .any, .any, .any, .any, .any, .any, .any, .any, .any, .any, .any, .any, .any], []=>some (okB m f&&decide (m≤140737488355328), .exit 0,mS (rowOf m f) (kZ (rowOf m f) m), [])
 | _,_=>none
theorem bZ:Tryz.prog.cellsOf 129=1:=by kernel_rfl
def IQ:=mh 140 [false,false,true] [0] O4 AN
theorem PZ:aB Tryz.prog IQ:=IP.nb adZ (fun T H e O N h=>by
 unfold O4 at h
 split at h
 ·rename_i m f
  simp only [Option.some.injEq,Prod.mk.injEq,Bool.and_eq_true,decide_eq_true_eq] at h
  obtain ⟨⟨J,I⟩,rfl,rfl,rfl⟩:=h
  refine Ends.pre (O8 (rowOf m f) m I).ends (fun α B w D S M=> ?_)
  obtain ⟨y,zs,rfl,j,G⟩:=M
  exact ⟨y,zs,rfl,cn bZ J j,G⟩
 ·cases h)
def z6:Env:= ⟨an 139 Fk aF,fun _=>false,IQ⟩
theorem PS:bb Tryz.prog z6.C:=(aH _).add yR
def O3 (args:List AV):Option (Bool×AV):=match args with | [.lst fl 129 m f]=>some (okB m f&&decide (m≤140737488355328),xz (vL (rowOf m f))) | _=>none
theorem ad0 (zs:List Int) (m:Nat):aD Tryz.prog z6 10 10 140 [.lst false 129 m (ai zs)]=(bif okB m (ai zs)&&decide (m≤140737488355328) then some (.lst false 129 (kZ (rowOf m (ai zs)) m) (ai (rowOf m (ai zs)))) else none):=by kernel_rfl
theorem O7:Entry Tryz.prog 140 O3:=by
 refine im (E:=z6) (u:=10) (d:=10) PS PZ.ok (by kernel_rfl) (fun args r h=> ?_)
 unfold O3 at h
 split at h
 ·rename_i fl m f
  simp only [Option.some.injEq,Prod.mk.injEq,Bool.and_eq_true,decide_eq_true_eq] at h
  obtain ⟨⟨I,Z⟩,rfl⟩:=h
  have ab:=cc m f
  have J:=(eM m f).1 I
  have M:rowOf m (ai (rowOf m f))=rowOf m f:=by rw [o8 _ (by omega),List.take_of_length_le (by omega)]
  have G:=ad0 (rowOf m f) m
  rw [M,show okB m (ai (rowOf m f))=true by rw [eM,M];exact J,decide_eq_true Z] at G
  refine ⟨_,_,G,fun B w a1 j=> ?_,fun B w y j=> ?_⟩
  ·obtain ⟨y,zs,rfl,O,S⟩:=j
   exact ⟨y,zs,rfl,tG (cn bZ I O),S⟩
  ·have e:=O6 J m (by omega)
   rw [show (rowOf m f).take m=rowOf m f from List.take_of_length_le (by omega)] at e
   have N:kZ (rowOf m f) m=(toL (vL (rowOf m f))).length:=by
    rw [← e,List.length_take,Nat.min_eq_left (Nat.le_trans (O5 _ _) (by omega))]
   unfold xz
   rw [← N]
   refine NB bZ (fun a0 U=> ?_) j
   unfold ai
   rw [← e,List.getD_eq_getElem?_getD,List.getD_eq_getElem?_getD,List.getElem?_take,if_pos U]
 ·cases h
end
end Go.Proofs.YtamcpiicmfielaaGreat.L
namespace Go.Proofs.YtamcpiicmfielaaGreat.L
open Go Go.V Go.RowKit Go.Proofs.YtamcpiicmfielaaGreat.Sp Go.Proofs.YtamcpiicmfielaaGreat.F Go.Proofs.YtamcpiicmfielaaGreatW.PrintWords
open Go.Proofs (Tryz.prog)
noncomputable section
def pc (zs j:List Int) (m:Nat) (i:Int):List AV:=av 43 [(0, .lst false 129 m (ai zs)),(1, .lst false 129 m (ai j)),(5, .val (.int .i64 i))]
theorem Sx:aJ Tryz.prog 107 [false,true,false,true,true]=some (.loop (lb 107 [false,true,false,true,true])):=by kernel_rfl
theorem Sz:aJ Tryz.prog 107 [false,false,true,false,true,true]=some (lb 107 [false,true,false,true,true]):=by kernel_rfl
theorem JS (zs j:List Int) (m:Nat) (i:Int):aN Tryz.prog bj 107 [0,1,4,5] (lb 107 [false,true,false,true,true]) [false,false,true,false,true,true] (pc zs j m i) []=
  (bif decide (0≤i) then bif decide (0≤i)&&decide (i < m) then bif decide (0≤i)&&decide (i < m) then bif decide (zs.getD i.toNat 0 < j.getD i.toNat 0) then some (.ret,av 43 [(0, .lst false 129 m (ai zs)),(1, .lst false 129 m (ai j)),(4, .val (.int .i64 (-1))),(5, .val (.int .i64 i))], [])
   else bif decide (0≤i)&&decide (i < m) then bif decide (0≤i)&&decide (i < m) then bif decide (j.getD i.toNat 0 < zs.getD i.toNat 0) then some (.ret,av 43 [(0, .lst false 129 m (ai zs)),(1, .lst false 129 m (ai j)),(4, .val (.int .i64 1)),(5, .val (.int .i64 i))], [])
   else bif aj .i64 (i - 1) then some (.normal,pc zs j m (i - 1), []) else none else none else none else none else none else some (.exit 0,pc zs j m i, [])):=by kernel_rfl
theorem wS {zs j:List Int} {m:Nat} {i:Int} {e:Ex} {T:List AV} {H:Hp} (h:aN Tryz.prog bj 107 [0,1,4,5] (lb 107 [false,true,false,true,true]) [false,false,true,false,true,true] (pc zs j m i) []=some (e,T,H)):V.Ends Tryz.prog false 0 0 (lb 107 [false,true,false,true,true]) (pc zs j m i) [] e T H:=
 bw (aH _) aK mixed Sz h
def fC (zs G:List Int):Nat→Int
 | 0=>0
 | j+1=>if zs.getD j 0 < G.getD j 0 then -1 else if G.getD j 0 < zs.getD j 0 then 1 else fC zs G j
def JO (c:Int):Ex:=if c=0 then .exit 0 else .ret
def JP (c:Int):List AV:=if c=0 then av 43 [] else av 43 [(4, .val (.int .i64 c))]
theorem JR (zs G:List Int) (m:Nat):∀ (d:Nat),d≤m→m≤140737488355328→aw Tryz.prog (lb 107 [false,true,false,true,true]) (pc zs G m ((d:Int) - 1)) [] (JO (fC zs G d)) (JP (fC zs G d)) []
 | 0,_,_=> .last (xB (keep:= []) (wS (by rw [JS];rfl)) (by kernel_rfl)) (by intro h;cases h)
 | d+1,N,M=>by
  have j:=JS zs G m (d:Int)
  rw [decide_eq_true (show (0:Int)≤(d:Int) by omega),decide_eq_true (show (d:Int) < (m:Int) by omega),eZ (by omega) (by omega),Int.toNat_natCast] at j
  rw [show (((d+1:Nat):Int) - 1)=(d:Int) by omega]
  unfold fC
  by_cases I:zs.getD d 0 < G.getD d 0
  ·rw [if_pos I]
   rw [decide_eq_true I] at j
   exact .last (xB (keep:= [4]) (wS j) (by kernel_rfl)) (by intro h;cases h)
  ·rw [if_neg I]
   rw [decide_eq_false I] at j
   by_cases J:G.getD d 0 < zs.getD d 0
   ·rw [if_pos J]
    rw [decide_eq_true J] at j
    exact .last (xB (keep:= [4]) (wS j) (by kernel_rfl)) (by intro h;cases h)
   ·rw [if_neg J]
    rw [decide_eq_false J] at j
    exact .more (wS j) (JR zs G m d (by omega) M)
theorem JN {zs j:List Int} (N:aI zs) (J:aI j):∀ d,d≤zs.length→d≤j.length→fC zs j d=b9 (vL (zs.take d)) (vL (j.take d))
 | 0,_,_=>by simp [fC,b9]
 | d+1,G,I=>by
  have ab:zs.getD d 0=zs[d]:=by rw [List.getD_eq_getElem?_getD,List.getElem?_eq_getElem G];rfl
  have a0:j.getD d 0=j[d]:=by rw [List.getD_eq_getElem?_getD,List.getElem?_eq_getElem I];rfl
  have a2:zs.take (d+1)=zs.take d ++ [zs[d]]:=by rw [List.take_add_one,List.getElem?_eq_getElem G];rfl
  have a3:j.take (d+1)=j.take d ++ [j[d]]:=by rw [List.take_add_one,List.getElem?_eq_getElem I];rfl
  have U:=dD (l:=zs.take d) (fun x M=>N x (List.mem_of_mem_take M))
  have Z:=dD (l:=j.take d) (fun x M=>J x (List.mem_of_mem_take M))
  have a1:=JN N J d (by omega) (by omega)
  have a4:=N _ (List.getElem_mem G)
  have a5:=J _ (List.getElem_mem I)
  rw [List.length_take,Nat.min_eq_left (by omega)] at U Z
  unfold fC
  rw [ab,a0,a2,a3,mc,mc,List.length_take,List.length_take,Nat.min_eq_left (by omega),Nat.min_eq_left (by omega),bU,bU,cp,a1]
  generalize vL (zs.take d)=a at*
  generalize vL (j.take d)=b at*
  generalize zs[d]=x at*
  generalize j[d]=y at*
  simp only [Nat.mul_zero,Nat.add_zero]
  unfold b9
  by_cases O:x < y
  ·have:=Nat.mul_le_mul_left (4294967296 ^ d) (show x.toNat+1≤y.toNat by omega)
   rw [Nat.mul_add,Nat.mul_one] at this
   rw [if_pos O,if_pos (by omega)]
  ·rw [if_neg O]
   by_cases S:y < x
   ·have:=Nat.mul_le_mul_left (4294967296 ^ d) (show y.toNat+1≤x.toNat by omega)
    rw [Nat.mul_add,Nat.mul_one] at this
    rw [if_pos S,if_neg (by omega),if_pos (by omega)]
   ·have:x=y:=by omega
    subst this
    rw [if_neg S]
    simp only [Nat.add_lt_add_iff_right]
def dH (m:Nat) (f:Nat→Nat→AV):Bool:=okB m f&&decide (rowOf m f=toL (vL (rowOf m f)))
theorem wM (n:Nat):dH (toL n).length (ai (toL n))=true:=by
 unfold dH
 rw [jJ,lV,cK]
 simp
def sA (w:Bool) (m n:Nat) (f g:Nat→Nat→AV) (i:Int):Bool:=
 okB m f&&okB n g&&decide (m=n)&&decide (-1≤i)&&decide (i < m)&&decide (m≤140737488355328)&&(decide (fC (rowOf m f) (rowOf n g) (i+1).toNat=0)==w)
def BD (w:Bool) (T:List AV) (H:Hp):Option (Bool×Ex×List AV×Hp):=
 match al T 0,al T 1,al T 5,H with
 | .lst false 129 m f, .lst false 129 n g, .val (.int .i64 i), []=>bif T.length==43 then some (sA w m n f g i,bif w then .exit 0 else .ret,bif w then av 43 [] else av 43 [(4, .val (.int .i64 (fC (rowOf m f) (rowOf n g) (i+1).toNat)))], []) else none
 | _,_,_,_=>none
theorem Sw (w:Bool) (T:List AV) (H:Hp) (e:Ex) (N:List AV) (M:Hp) (h:BD w T H=some (true,e,N,M)):V.Ends Tryz.prog false 0 0 (.loop (lb 107 [false,true,false,true,true])) T H e N M:=by
 unfold BD at h
 split at h
 ·rename_i m f n g i Z ab a0
  rw [Bool.cond_eq_ite] at h
  split at h
  ·rename_i O
   rw [beq_iff_eq] at O
   simp only [Option.some.injEq,Prod.mk.injEq] at h
   obtain ⟨J,rfl,rfl,rfl⟩:=h
   unfold sA at J
   simp only [Bool.and_eq_true,decide_eq_true_eq] at J
   obtain ⟨⟨⟨⟨⟨⟨k1,a3⟩,rfl⟩,a5⟩,a6⟩,a4⟩,U⟩:=J
   have j:=(JR (rowOf m f) (rowOf m g) m (i+1).toNat (by omega) a4).ends
   rw [show (((i+1).toNat:Nat):Int) - 1=i by omega] at j
   have a1:V.Ends Tryz.prog false 0 0 (.loop (lb 107 [false,true,false,true,true])) (pc (rowOf m f) (rowOf m g) m i) [] (bif w then .exit 0 else .ret) (bif w then av 43 [] else av 43 [(4, .val (.int .i64 (fC (rowOf m f) (rowOf m g) (i+1).toNat)))]) []:=by
    generalize fC (rowOf m f) (rowOf m g) (i+1).toNat=c at*
    unfold JO JP at j
    cases w with
    | true=>
     have I:c=0:=by simpa using U
     rw [if_pos I,if_pos I] at j
     exact j
    | false=>
     have I:c≠0:=by simpa using U
     rw [if_neg I,if_neg I] at j
     exact j
   refine Ends.pre a1 (fun α B w D a7 a2=>bm O (fun p S y G=> ?_) a2)
   simp only [List.mem_cons,List.not_mem_nil,or_false] at S
   rcases S with rfl | rfl | rfl
   ·rw [Z] at G;exact cn bZ k1 G
   ·rw [ab] at G;exact cn bZ a3 G
   ·rw [a0] at G;exact G
  ·cases h
 ·cases h
def z7 (w:Bool):Env:= ⟨aF,fun _=>false,mh 107 [false,true,false,true,true] [0,1,5] (BD w) aq⟩
theorem PT (w:Bool):cL Tryz.prog (z7 w):=(aB.none.nb Sx (Sw w)).ok
theorem JQ (w:Bool) (zs j:List Int) (m n:Nat):aD Tryz.prog (z7 w) 10 10 107 [.lst false 129 m (ai zs), .lst false 129 n (ai j)]=
  (bif !decide ((m:Int)=n) then bif decide ((m:Int) < n) then some (.val (.int .i64 (-1))) else some (.val (.int .i64 1)) else bif aj .i64 ((m:Int) - 1) then bif sA w m n (ai zs) (ai j) ((m:Int) - 1) then (match w with | true=>some (.val (.int .i64 0)) | false=>some (.val (.int .i64 (fC (rowOf m (ai zs)) (rowOf n (ai j)) ((m:Int) - 1+1).toNat)))) else none else none):=by
 cases w <;> kernel_rfl
def JT (args:List AV):Option (Bool×AV):=match args with
 | [.lst _ 129 m f, .lst _ 129 n g]=>some (dH m f&&dH n g&&decide (m≤140737488355328)&&decide (n≤140737488355328), .val (.int .i64 (b9 (vL (rowOf m f)) (vL (rowOf n g)))))
 | _=>none
theorem JU:Entry Tryz.prog 107 JT:=by
 intro args r J
 unfold JT at J
 split at J
 ·rename_i c0 m f c1 n g
  simp only [Option.some.injEq,Prod.mk.injEq,Bool.and_eq_true,decide_eq_true_eq] at J
  obtain ⟨⟨⟨⟨G,I⟩,a6⟩,c2⟩,rfl⟩:=J
  unfold dH at G I
  rw [Bool.and_eq_true,decide_eq_true_eq] at G I
  have l1:=cc m f
  have l2:=cc n g
  have S:rowOf m (ai (rowOf m f))=rowOf m f:=by rw [o8 _ (by omega),List.take_of_length_le (by omega)]
  have U:rowOf n (ai (rowOf n g))=rowOf n g:=by rw [o8 _ (by omega),List.take_of_length_le (by omega)]
  have ab:=(eM m f).1 G.1
  have a0:=(eM n g).1 I.1
  have a1:okB m (ai (rowOf m f))=true:=by rw [eM,S];exact ab
  have a2:okB n (ai (rowOf n g))=true:=by rw [eM,U];exact a0
  have b1:∃ w v,aD Tryz.prog (z7 w) 10 10 107 [.lst false 129 m (ai (rowOf m f)), .lst false 129 n (ai (rowOf n g))]=some v∧v= .val (.int .i64 (b9 (vL (rowOf m f)) (vL (rowOf n g)))):=by
   by_cases a7:m=n
   ·subst a7
    have O:=JN ab a0 m (by omega) (by omega)
    rw [List.take_of_length_le (by omega),List.take_of_length_le (by omega)] at O
    have j:=JQ (decide (fC (rowOf m f) (rowOf m g) m=0)) (rowOf m f) (rowOf m g) m m
    have M:((m:Int) - 1+1).toNat=m:=by omega
    have a5:sA (decide (fC (rowOf m f) (rowOf m g) m=0)) m m (ai (rowOf m f)) (ai (rowOf m g)) ((m:Int) - 1)=true:=by
     unfold sA
     rw [a1,a2,S,U,M,decide_eq_true (show (-1:Int)≤(m:Int) - 1 by omega),decide_eq_true (show ((m:Int) - 1) < (m:Int) by omega),decide_eq_true a6]
     simp
    rw [a5,S,U,M,eZ (by omega) (by omega)] at j
    simp only [decide_true,Bool.not_true,cond] at j
    by_cases N:fC (rowOf m f) (rowOf m g) m=0
    ·rw [decide_eq_true N] at j
     exact ⟨_,_,j,by rw [← O,N]⟩
    ·rw [decide_eq_false N] at j
     exact ⟨_,_,j,by rw [← O]⟩
   ·have j:=JQ true (rowOf m f) (rowOf n g) m n
    rw [decide_eq_false (show ¬ (m:Int)=n by omega)] at j
    have M:(toL (vL (rowOf m f))).length=m:=by rw [← G.2,l1]
    have ct:(toL (vL (rowOf n g))).length=n:=by rw [← I.2,l2]
    by_cases Z:(m:Int) < n
    ·rw [decide_eq_true Z] at j
     refine ⟨_,_,j, ?_⟩
     have:=K8 (show (toL (vL (rowOf m f))).length < (toL (vL (rowOf n g))).length by omega)
     have a3:=lz (Nat.le_refl (toL (vL (rowOf m f))).length)
     unfold b9
     rw [if_pos (by omega)]
    ·rw [decide_eq_false Z] at j
     refine ⟨_,_,j, ?_⟩
     have:=K8 (show (toL (vL (rowOf n g))).length < (toL (vL (rowOf m f))).length by omega)
     have a3:=lz (Nat.le_refl (toL (vL (rowOf n g))).length)
     unfold b9
     rw [if_neg (by omega),if_pos (by omega)]
  obtain ⟨w,v,bx,rfl⟩:=b1
  intro B b6 b7 a4 bD
  refine p9 (aH _) (PT w) mixed (by kernel_rfl) bx B b6 b7 a4 ?_
  obtain ⟨y,zs,b0,b2,b3⟩:=bD
  obtain ⟨b8,ch,rfl,b4,b5⟩:=b3
  rw [b0]
  exact ⟨y,_,rfl,tG (cn bZ G.1 b2),b8,ch,rfl,tG (cn bZ I.1 b4),b5⟩
 ·cases J
end
end Go.Proofs.YtamcpiicmfielaaGreat.L
namespace Go.Proofs.YtamcpiicmfielaaGreat.L
open Go Go.V Go.RowKit Go.Proofs.YtamcpiicmfielaaGreat.Sp Go.Proofs.YtamcpiicmfielaaGreat.F Go.Proofs.YtamcpiicmfielaaGreatW.PrintWords
open Go.Proofs (Tryz.prog)
noncomputable section
def nQ (s:ByteArray) (m:Nat) (n i:Int):List AV:=av 41 [(0, .val (.string s)),(3, .sl false 129 0 0 m),(15, .val (.int .i64 n)),(16, .val (.int .i64 i))]
def nD (zs:List Int):Hp:= [.row (.ints .u32 zs) 129 .live]
abbrev jN:List Bool:= [false,true,false,true,true,true]
theorem Xz:aJ Tryz.prog 106 jN=some (.loop (lb 106 jN)):=by kernel_rfl
theorem XB:aJ Tryz.prog 106 (false :: jN)=some (lb 106 jN):=by kernel_rfl
theorem Ll (s:ByteArray) (zs:List Int) (m:Nat) (n i:Int):aN Tryz.prog bj 106 [0,3,15,16] (lb 106 jN) (false :: jN) (nQ s m n i) (nD zs)=
  (bif decide (i < n) then bif aj .i64 ((s.size:Int) - 1) then bif aj .i64 ((s.size:Int) - 1 - i) then bif aj .i64 (i.tdiv 4) then
   bif decide (0≤i.tdiv 4)&&decide (i.tdiv 4 < m) then bif decide (0+(i.tdiv 4).toNat*1 < zs.length) then bif decide (0≤(s.size:Int) - 1 - i)&&decide ((s.size:Int) - 1 - i < s.size) then
   bif aj .u32 (aR s ((s.size:Int) - 1 - i).toNat) then bif aj .i64 (8*i.tmod 4) then bif decide (8*i.tmod 4 < 0) then none else
   bif decide (0≤i.tdiv 4)&&decide (i.tdiv 4 < m) then bif decide (0+(i.tdiv 4).toNat*1 < zs.length) then bif aj .i64 (i+1) then
   some (.normal,nQ s m n (i+1),nD (zs.set (0+(i.tdiv 4).toNat*1) (bV .or .u32 (zs.getD (0+(i.tdiv 4).toNat*1) 0) (IntKind.u32.wrap (aR s ((s.size:Int) - 1 - i).toNat*2 ^ min (8*i.tmod 4).toNat IntKind.u32.bits)))))
   else none else none else none else none else none else none else none else none else none else none else none else some (.exit 0,nQ s m n i,nD zs)):=by kernel_rfl
theorem Ln {s:ByteArray} {zs:List Int} {m:Nat} {n i:Int} {e:Ex} {T:List AV} {H:Hp} (h:aN Tryz.prog bj 106 [0,3,15,16] (lb 106 jN) (false :: jN) (nQ s m n i) (nD zs)=some (e,T,H)):V.Ends Tryz.prog false 0 0 (lb 106 jN) (nQ s m n i) (nD zs) e T H:=
 bw (aH _) aK mixed XB h
def qF (s:ByteArray) (i:Nat) (out:List Int):List Int:=out.set (i / 4) (bV .or .u32 (out.getD (i / 4) 0) (IntKind.u32.wrap (aR s (s.size - 1 - i)*2 ^ min (8*(i % 4)) IntKind.u32.bits)))
def oP (s:ByteArray):Nat→Nat→List Int→List Int
 | 0,_,out=>out
 | d+1,i,out=>oP s d (i+1) (qF s i out)
theorem lj (s:ByteArray) (i:Nat):0≤aR s i∧aR s i < 256:=by
 unfold aR
 have:=(s.data.toList.getD i 0).toNat_lt
 omega
theorem Lj (s:ByteArray) (m:Nat) (Z:s.size≤140737488355328) (U:m=(s.size+3) / 4):∀ (d i:Nat) (out:List Int),i+d=s.size→out.length=m→aw Tryz.prog (lb 106 jN) (nQ s m s.size i) (nD out) (.exit 0) (nQ s m s.size s.size) (nD (oP s d i out))
 | 0,i,out,S,G=>by
  have j:=Ll s out m s.size i
  have:i=s.size:=by omega
  subst this
  rw [decide_eq_false (show ¬ ((s.size:Int) < s.size) by omega)] at j
  exact .last (Ln j) (by intro h;cases h)
 | d+1,i,out,S,G=>by
  have j:=Ll s out m s.size i
  have I:(i:Int).tdiv 4=((i / 4:Nat):Int):=CM i
  have J:(i:Int).tmod 4=((i % 4:Nat):Int):=CN i
  have M:(s.size:Int) - 1 - i=((s.size - 1 - i:Nat):Int):=by omega
  have N:8*((i % 4:Nat):Int)=((8*(i % 4):Nat):Int):=by omega
  have O:=lj s (s.size - 1 - i)
  rw [I,J,M,N,Int.toNat_natCast,Int.toNat_natCast,Int.toNat_natCast,Nat.zero_add,Nat.mul_one] at j
  rw [decide_eq_true (show (i:Int) < s.size by omega),eZ (show -9223372036854775808≤(s.size:Int) - 1 by omega) (by omega),eZ (show -9223372036854775808≤((s.size - 1 - i:Nat):Int) by omega) (by omega),eZ (show -9223372036854775808≤((i / 4:Nat):Int) by omega) (by omega),eZ (show -9223372036854775808≤((8*(i % 4):Nat):Int) by omega) (by omega),eZ (show -9223372036854775808≤(i:Int)+1 by omega) (by omega),
   decide_eq_true (show (0:Int)≤((i / 4:Nat):Int) by omega),decide_eq_true (show ((i / 4:Nat):Int) < (m:Int) by omega),decide_eq_true (show i / 4 < out.length by omega),decide_eq_true (show (0:Int)≤((s.size - 1 - i:Nat):Int) by omega),decide_eq_true (show ((s.size - 1 - i:Nat):Int) < (s.size:Int) by omega),decide_eq_false (show ¬ (((8*(i % 4):Nat):Int) < 0) by omega),
   show aj .u32 (aR s (s.size - 1 - i))=true by unfold aj;rw [Bool.and_eq_true,decide_eq_true_eq,decide_eq_true_eq];exact ⟨O.1,by have:IntKind.u32.max=4294967295:=rfl;omega⟩] at j
  refine .more (Ln j) ?_
  have:=Lj s m Z U d (i+1) (qF s i out) (by omega) (by unfold qF;rw [List.length_set];exact G)
  rw [show ((i+1:Nat):Int)=(i:Int)+1 by omega] at this
  exact this
theorem Li (s:ByteArray) (M:s.size≤140737488355328):∀ (d k i:Nat) (out:List Int),i+d=s.size→d < k→out.length=(s.size+3) / 4→da.l0 k s out s.size i=some (oP s d i out)
 | 0,k,i,out,I,J,j=>by
  obtain ⟨k,rfl⟩:∃ m,k=m+1:= ⟨k - 1,by omega⟩
  rw [da.l0,if_neg (by omega)]
  rfl
 | d+1,k,i,out,I,J,j=>by
  obtain ⟨k,rfl⟩:∃ m,k=m+1:= ⟨k - 1,by omega⟩
  rw [da.l0,CM,CN,K4 i (by omega),K3 s.size i (by omega) (by omega),K5,K6 i (by omega)]
  rw [if_pos (by omega),if_pos (by omega),if_pos (by omega),if_pos (by omega),if_pos (by omega),if_pos (by omega)]
  have G:=JB s (s.size - 1 - i) (by omega)
  have O:=lj s (s.size - 1 - i)
  rw [← G,show aR s (s.size - 1 - i) % 4294967296=aR s (s.size - 1 - i) by omega]
  have N:out.set (((i / 4:Nat):Int)).toNat (Go.bits .or .u32 (rd out ((i / 4:Nat):Int)) (shl .u32 (aR s (s.size - 1 - i)) ((8*(i % 4):Nat):Int)))=qF s i out:=by
   unfold qF shl rd
   rw [Int.toNat_natCast,Int.toNat_natCast]
   rfl
  rw [N]
  exact Li s M d k (i+1) _ (by omega) (by omega) (by unfold qF;rw [List.length_set];exact j)
theorem Xy (s:ByteArray) (G:s.size≤140737488355328):∃ r,oP s s.size 0 (List.replicate ((s.size+3) / 4) 0)=r∧aI r∧r.length=(s.size+3) / 4∧vL r=vS s:=by
 obtain ⟨r,j,I,J,M⟩:=XC s G s.size (s.size+1) 0 (List.replicate ((s.size+3) / 4) 0) (by omega) (by omega) (kM _) (by simp) (by
  rw [GS,Nat.sub_zero,List.drop_of_length_le (by rw [mr];exact Nat.le_refl _)];rfl)
 have:=Li s G s.size (s.size+1) 0 (List.replicate ((s.size+3) / 4) 0) (by omega) (by omega) (by simp)
 rw [this] at j
 cases j
 exact ⟨_,rfl,I,J,M⟩
def tE (s:ByteArray) (m:Nat) (n:Int) (zs:List Int):Bool:=decide (n=s.size)&&decide (s.size≤140737488355328)&&decide (m=(s.size+3) / 4)&&decide (zs.length=m)
def CQ (T:List AV) (H:Hp):Option (Bool×Ex×List AV×Hp):=
 match al T 0,al T 3,al T 15,al T 16,H with
 | .val (.string s), .sl false 129 0 0 m, .val (.int .i64 n), .val (.int .i64 0), [.row (.ints .u32 zs) 129 .live]=>bif T.length==41 then some (tE s m n zs, .exit 0,nQ s m s.size s.size,nD (oP s s.size 0 zs)) else none
 | _,_,_,_,_=>none
theorem Xx (T:List AV) (H:Hp) (e:Ex) (J:List AV) (I:Hp) (h:CQ T H=some (true,e,J,I)):V.Ends Tryz.prog false 0 0 (.loop (lb 106 jN)) T H e J I:=by
 unfold CQ at h
 split at h
 ·rename_i s m n zs O Z S U
  rw [Bool.cond_eq_ite] at h
  split at h
  ·rename_i M
   rw [beq_iff_eq] at M
   simp only [Option.some.injEq,Prod.mk.injEq] at h
   obtain ⟨G,rfl,rfl,rfl⟩:=h
   unfold tE at G
   simp only [Bool.and_eq_true,decide_eq_true_eq] at G
   obtain ⟨⟨⟨rfl,a0⟩,a1⟩,a2⟩:=G
   refine Ends.pre (Lj s m a0 a1 s.size 0 zs (by omega) a2).ends (fun α B w D a3 ab=>bm M (fun p N y j=> ?_) ab)
   simp only [List.mem_cons,List.not_mem_nil,or_false] at N
   rcases N with rfl | rfl | rfl | rfl
   ·rw [O] at j;exact j
   ·rw [Z] at j;exact j
   ·rw [S] at j;exact j
   ·rw [U] at j;exact j
  ·cases h
 ·cases h
def Fl (j:ByteArray→ByteArray) (args:List AV):Option (Bool×AV):=match args with | [.val (.string s)]=>some (true, .val (.string (j s))) | _=>none
def wb (j:ByteArray→ByteArray):Env:= ⟨an 139 (Fl j) aF,fun _=>false,mh 106 jN [0,3,15,16] CQ aq⟩
theorem PU:bb Tryz.prog (wb fun s=>az (vS s)).C:=(aH _).add yR
theorem PV (j:ByteArray→ByteArray):cL Tryz.prog (wb j):=(aB.none.nb Xz Xx).ok
theorem XA (j:ByteArray→ByteArray) (s:ByteArray):aD Tryz.prog (wb j) 10 10 106 [.val (.string s)]=
  (bif aj .i64 (((j s).size:Int)+4) then bif aj .i64 (((j s).size:Int)+4 - 1) then bif aj .i64 ((((j s).size:Int)+4 - 1).tdiv 4) then
   bif decide (0≤(((j s).size:Int)+4 - 1).tdiv 4)&&decide ((((j s).size:Int)+4 - 1).tdiv 4≤(((j s).size:Int)+4 - 1).tdiv 4)&&decide ((4:Int)*(((j s).size:Int)+4 - 1).tdiv 4≤281474976710656)&&decide ((((j s).size:Int)+4 - 1).tdiv 4≤9223372036854775807) then
   bif tE (j s) ((((j s).size:Int)+4 - 1).tdiv 4).toNat ((j s).size:Int) (List.replicate ((((j s).size:Int)+4 - 1).tdiv 4).toNat 0) then
   bif decide (0+((((j s).size:Int)+4 - 1).tdiv 4).toNat*1≤(oP (j s) (j s).size 0 (List.replicate ((((j s).size:Int)+4 - 1).tdiv 4).toNat 0)).length) then
   some (.lst false 129 ((((j s).size:Int)+4 - 1).tdiv 4).toNat (ai (oP (j s) (j s).size 0 (List.replicate ((((j s).size:Int)+4 - 1).tdiv 4).toNat 0))))
   else none else none else none else none else none else none):=by kernel_rfl
theorem Sj (n:Nat) {r:List Int} (I:aI r) (j:r.length=((az n).size+3) / 4) (G:vL r=n):r=toL n:=by
 rw [← G]
 apply Cc I
 intro M
 rw [G,j]
 have N:0 < (az n).size:=by
  rcases Nat.eq_zero_or_pos (az n).size with h | h
  ·rw [h] at j;exact absurd (List.length_eq_zero_iff.1 j) M
  ·exact h
 have J:256 ^ ((az n).size - 1)≤n:=by rw [kV] at N ⊢;exact Xk (by omega)
 refine Nat.le_trans ?_ J
 rw [show (4294967296:Nat)=256 ^ 4 from rfl,← Nat.pow_mul]
 exact Nat.pow_le_pow_right (by decide) (by omega)
def Lg (args:List AV):Option (Bool×AV):=match args with | [.val (.string s)]=>some (decide (s.size≤140737488355328),xz (vS s)) | _=>none
theorem Lh:Entry Tryz.prog 106 Lg:=by
 refine im (E:=wb fun s=>az (vS s)) (u:=10) (d:=10) PU (PV _) (by kernel_rfl) (fun args r h=> ?_)
 unfold Lg at h
 split at h
 ·rename_i s
  simp only [Option.some.injEq,Prod.mk.injEq,decide_eq_true_eq] at h
  obtain ⟨Z,rfl⟩:=h
  have j:=XA (fun s=>az (vS s)) s
  have ab:(az (vS s)).size≤s.size:=abL (ld s)
  obtain ⟨r,M,N,I,J⟩:=Xy (az (vS s)) (by omega)
  rw [jc] at J
  have O:=Sj (vS s) N I J
  generalize az (vS s)=t at*
  have U:((t.size:Int)+4 - 1).tdiv 4=(((t.size+3) / 4:Nat):Int):=by
   rw [show (t.size:Int)+4 - 1=((t.size+3:Nat):Int) by omega]
   rw [Int.tdiv_eq_ediv_of_nonneg (by omega)]
   rfl
  rw [U,Int.toNat_natCast,M] at j
  have S:tE t ((t.size+3) / 4) (t.size:Int) (List.replicate ((t.size+3) / 4) 0)=true:=by
   unfold tE
   simp only [decide_true,List.length_replicate,Bool.and_true,Bool.true_and]
   exact decide_eq_true (by omega)
  rw [S,eZ (show -9223372036854775808≤(t.size:Int)+4 by omega) (by omega),eZ (show -9223372036854775808≤(t.size:Int)+4 - 1 by omega) (by omega),eZ (show -9223372036854775808≤(((t.size+3) / 4:Nat):Int) by omega) (by omega),
   decide_eq_true (show (0:Int)≤(((t.size+3) / 4:Nat):Int) by omega),decide_eq_true (show (((t.size+3) / 4:Nat):Int)≤(((t.size+3) / 4:Nat):Int) by omega),decide_eq_true (show (4:Int)*(((t.size+3) / 4:Nat):Int)≤281474976710656 by omega),decide_eq_true (show (((t.size+3) / 4:Nat):Int)≤9223372036854775807 by omega),
   decide_eq_true (show 0+(t.size+3) / 4*1≤r.length by omega)] at j
  refine ⟨_,_,j,fun B w a0 G=>G,fun B w y G=> ?_⟩
  unfold xz
  rw [← O,I]
  exact G
 ·cases h
end
end Go.Proofs.YtamcpiicmfielaaGreat.L
namespace Go.Proofs.YtamcpiicmfielaaGreat.L
open Go Go.V Go.RowKit Go.Proofs.YtamcpiicmfielaaGreat.Sp Go.Proofs.YtamcpiicmfielaaGreat.F Go.Proofs.YtamcpiicmfielaaGreatW.PrintWords
open Go.Proofs (Tryz.prog)
noncomputable section
abbrev dR:List Bool:= [false,true,false,true,true]
def lW (zs:List Int) (m l:Nat) (i:Int):List AV:=av 41 [(0, .lst false 129 m (ai zs)),(3, .sl false 5 0 0 l),(4, .val (.int .i64 i))]
def pg (zs:List Int) (m:Nat) (i:Int):List AV:=av 41 [(0, .lst false 129 m (ai zs)),(3, .val (.slice none 0 0)),(4, .val (.int .i64 i))]
def lp (bs:List Int):Hp:= [.row (.ints .u8 bs) 5 .live]
def ic (z:Int):List Int:= [IntKind.u8.wrap (z.fdiv (2 ^ min (Int.toNat 24) IntKind.u32.bits)),IntKind.u8.wrap (z.fdiv (2 ^ min (Int.toNat 16) IntKind.u32.bits)),IntKind.u8.wrap (z.fdiv (2 ^ min (Int.toNat 8) IntKind.u32.bits)),IntKind.u8.wrap z]
theorem acE:aJ Tryz.prog 141 dR=some (.loop (lb 141 dR)):=by kernel_rfl
theorem OG:aJ Tryz.prog 141 (false :: dR)=some (lb 141 dR):=by kernel_rfl
theorem OI (zs:List Int) (m l:Nat) (i:Int) (bs:List Int):aN Tryz.prog bj 141 [0,3,4] (lb 141 dR) (false :: dR) (lW zs m l i) (lp bs)=
  (bif decide (0≤i) then bif decide (0≤i)&&decide (i < m) then bif decide (0≤i)&&decide (i < m) then bif decide (0≤i)&&decide (i < m) then bif decide (0≤i)&&decide (i < m) then
   bif decide (l*1≤bs.length)&&cA Tryz.prog (l+4) 5&&true then bif aj .i64 (i - 1) then some (.normal,lW zs m (l+4) (i - 1),lp (bs.take (l*1) ++ ic (zs.getD i.toNat 0)))
   else none else none else none else none else none else none else some (.exit 0,lW zs m l i,lp bs)):=by kernel_rfl
theorem OJ (zs:List Int) (m:Nat) (i:Int):aN Tryz.prog bj 141 [0,3,4] (lb 141 dR) (false :: dR) (pg zs m i) []=
  (bif decide (0≤i) then bif decide (0≤i)&&decide (i < m) then bif decide (0≤i)&&decide (i < m) then bif decide (0≤i)&&decide (i < m) then bif decide (0≤i)&&decide (i < m) then
   bif aj .i64 (i - 1) then some (.normal,lW zs m 4 (i - 1),lp (ic (zs.getD i.toNat 0)))
   else none else none else none else none else none else some (.exit 0,pg zs m i, [])):=by kernel_rfl
theorem OK {zs:List Int} {m l:Nat} {i:Int} {bs:List Int} {e:Ex} {T:List AV} {H:Hp} (h:aN Tryz.prog bj 141 [0,3,4] (lb 141 dR) (false :: dR) (lW zs m l i) (lp bs)=some (e,T,H)):V.Ends Tryz.prog false 0 0 (lb 141 dR) (lW zs m l i) (lp bs) e T H:=
 bw (aH _) aK mixed OG h
theorem OL {zs:List Int} {m:Nat} {i:Int} {e:Ex} {T:List AV} {H:Hp} (h:aN Tryz.prog bj 141 [0,3,4] (lb 141 dR) (false :: dR) (pg zs m i) []=some (e,T,H)):V.Ends Tryz.prog false 0 0 (lb 141 dR) (pg zs m i) [] e T H:=
 bw (aH _) aK mixed OG h
def gZ (zs:List Int):Nat→List Int→List Int
 | 0,bs=>bs
 | d+1,bs=>gZ zs d (bs ++ ic (zs.getD d 0))
theorem OF (zs:List Int):∀ d bs,(gZ zs d bs).length=bs.length+4*d
 | 0,bs=>rfl
 | d+1,bs=>by unfold gZ;rw [OF zs d,List.length_append];simp [ic];omega
theorem aaF (n:Nat) (h:n≤140737488355328):cA Tryz.prog n 5=true:=by
 unfold cA
 rw [Bool.and_eq_true,decide_eq_true_eq,decide_eq_true_eq,show Tryz.prog.bytesOf 5=1 by kernel_rfl]
 omega
theorem OH (zs:List Int) (m:Nat) (J:m≤17592186044416):∀ (d:Nat) (bs:List Int),d≤m→bs.length+4*d≤140737488355328→aw Tryz.prog (lb 141 dR) (lW zs m bs.length ((d:Int) - 1)) (lp bs) (.exit 0) (lW zs m (bs.length+4*d) (-1)) (lp (gZ zs d bs))
 | 0,bs,G,I=> .last (OK (by rw [OI];rfl)) (by intro h;cases h)
 | d+1,bs,G,I=>by
  have j:=OI zs m bs.length (d:Int) bs
  rw [decide_eq_true (show (0:Int)≤(d:Int) by omega),decide_eq_true (show (d:Int) < (m:Int) by omega),eZ (show -9223372036854775808≤(d:Int) - 1 by omega) (by omega),decide_eq_true (show bs.length*1≤bs.length by omega),aaF _ (by omega),Nat.mul_one,List.take_length,Int.toNat_natCast] at j
  rw [show (((d+1:Nat):Int) - 1)=(d:Int) by omega]
  have:=OH zs m J d (bs ++ ic (zs.getD d 0)) (by omega) (by rw [List.length_append];simp [ic];omega)
  rw [List.length_append,show (ic (zs.getD d 0)).length=4 from rfl,show bs.length+4+4*d=bs.length+4*(d+1) by omega] at this
  exact .more (OK j) this
def nR (w:Bool) (m:Nat) (f:Nat→Nat→AV) (i:Int):Bool:=okB m f&&decide (i=(m:Int) - 1)&&decide (m≤17592186044416)&&(decide (m=0)==w)
def Fh (w:Bool) (T:List AV) (H:Hp):Option (Bool×Ex×List AV×Hp):=
 match al T 0,al T 3,al T 4,H with
 | .lst false 129 m f, .val (.slice none 0 0), .val (.int .i64 i), []=>bif T.length==41 then some (nR w m f i, .exit 0,bif w then pg (rowOf m f) m (-1) else lW (rowOf m f) m (4*m) (-1),bif w then [] else lp (gZ (rowOf m f) m [])) else none
 | _,_,_,_=>none
theorem acD (w:Bool) (T:List AV) (H:Hp) (e:Ex) (M:List AV) (J:Hp) (h:Fh w T H=some (true,e,M,J)):V.Ends Tryz.prog false 0 0 (.loop (lb 141 dR)) T H e M J:=by
 unfold Fh at h
 split at h
 ·rename_i m f i Z ab a0
  rw [Bool.cond_eq_ite] at h
  split at h
  ·rename_i N
   rw [beq_iff_eq] at N
   simp only [Option.some.injEq,Prod.mk.injEq] at h
   obtain ⟨I,rfl,rfl,rfl⟩:=h
   unfold nR at I
   simp only [Bool.and_eq_true,decide_eq_true_eq] at I
   obtain ⟨⟨⟨k1,rfl⟩,a2⟩,U⟩:=I
   have a1:V.Ends Tryz.prog false 0 0 (.loop (lb 141 dR)) (pg (rowOf m f) m ((m:Int) - 1)) [] (.exit 0) (bif w then pg (rowOf m f) m (-1) else lW (rowOf m f) m (4*m) (-1)) (bif w then [] else lp (gZ (rowOf m f) m [])):=by
    generalize rowOf m f=zs
    cases w with
    | true=>
     have O:m=0:=by simpa using U
     subst O
     exact (aw.last (OL (by rw [OJ];rfl)) (by intro h;cases h)).ends
    | false=>
     have O:m≠0:=by simpa using U
     obtain ⟨d,rfl⟩:∃ d,m=d+1:= ⟨m - 1,by omega⟩
     have G:=OJ zs (d+1) (d:Int)
     rw [decide_eq_true (show (0:Int)≤(d:Int) by omega),decide_eq_true (show (d:Int) < ((d+1:Nat):Int) by omega),eZ (show -9223372036854775808≤(d:Int) - 1 by omega) (by omega),Int.toNat_natCast] at G
     rw [show (((d+1:Nat):Int) - 1)=(d:Int) by omega]
     have:=OH zs (d+1) a2 d (ic (zs.getD d 0)) (by omega) (by simp [ic];omega)
     rw [show (ic (zs.getD d 0)).length=4 from rfl,show 4+4*d=4*(d+1) by omega] at this
     exact (aw.more (OL G) this).ends
   refine Ends.pre a1 (fun α B w D a3 G=>bm N (fun p S y j=> ?_) G)
   simp only [List.mem_cons,List.not_mem_nil,or_false] at S
   rcases S with rfl | rfl | rfl
   ·rw [Z] at j;exact cn bZ k1 j
   ·rw [ab] at j;exact j
   ·rw [a0] at j;exact j
  ·cases h
 ·cases h
def r6 (w:Bool) (j:ByteArray→ByteArray):Env:= ⟨an 139 (Fl j) aF,fun _=>false,mh 141 dR [0,3,4] (Fh w) aq⟩
theorem PX (w:Bool):bb Tryz.prog (r6 w fun s=>az (vS s)).C:=(aH _).add yR
theorem PY (w:Bool) (j:ByteArray→ByteArray):cL Tryz.prog (r6 w j):=(aB.none.nb acE (acD w)).ok
theorem acF (j:ByteArray→ByteArray) (zs:List Int) (m:Nat):aD Tryz.prog (r6 true j) 10 10 141 [.lst false 129 m (ai zs)]=
  (bif aj .i64 ((m:Int) - 1) then bif nR true m (ai zs) ((m:Int) - 1) then some (.val (.string (j (ofBytes [])))) else none else none):=by kernel_rfl
theorem acG (j:ByteArray→ByteArray) (zs:List Int) (m:Nat):aD Tryz.prog (r6 false j) 10 10 141 [.lst false 129 m (ai zs)]=
  (bif aj .i64 ((m:Int) - 1) then bif nR false m (ai zs) ((m:Int) - 1) then bif decide (0+4*m*1≤(gZ (rowOf m (ai zs)) m []).length) then some (.val (.string (j (ofBytes ((gZ (rowOf m (ai zs)) m []).take (4*m*1)))))) else none else none else none):=by kernel_rfl
theorem rO (z:Int):IntKind.u8.wrap z=z % 256:=by
 unfold IntKind.wrap
 simp [IntKind.bits,IntKind.signed]
theorem Sb {z:Int} (G:0≤z) (O:z < 4294967296):vB ((ic z).map fun z=>UInt8.ofNat z.toNat)=z.toNat:=by
 obtain ⟨n,rfl⟩:=Int.eq_ofNat_of_zero_le G
 have j:∀ k:Nat,(UInt8.ofNat (IntKind.u8.wrap (((n:Int)).fdiv ((k:Nat):Int))).toNat).toNat=n / k % 256:=by
  intro k
  rw [rO,Int.fdiv_eq_ediv_of_nonneg _ (by omega),← Int.natCast_ediv,UInt8.toNat_ofNat']
  omega
 have N:=j 16777216
 have M:=j 65536
 have J:=j 256
 have I:(UInt8.ofNat (IntKind.u8.wrap (n:Int)).toNat).toNat=n % 256:=by
  rw [rO,UInt8.toNat_ofNat']
  omega
 have e:(ic (n:Int))= [IntKind.u8.wrap ((n:Int).fdiv ((16777216:Nat):Int)),IntKind.u8.wrap ((n:Int).fdiv ((65536:Nat):Int)),IntKind.u8.wrap ((n:Int).fdiv ((256:Nat):Int)),IntKind.u8.wrap (n:Int)]:=rfl
 rw [e]
 simp only [List.map_cons,List.map_nil,la,zD,List.length_cons,List.length_nil,N,M,J,I,Int.toNat_natCast]
 omega
theorem OM {zs:List Int} (I:aI zs):∀ (d:Nat) (bs:List Int),d≤zs.length→vB ((gZ zs d bs).map fun z=>UInt8.ofNat z.toNat)=vB (bs.map fun z=>UInt8.ofNat z.toNat)*4294967296 ^ d+vL (zs.take d)
 | 0,bs,_=>by simp [gZ,cp]
 | d+1,bs,J=>by
  have j:d < zs.length:=J
  have M:zs.getD d 0=zs[d]:=by rw [List.getD_eq_getElem?_getD,List.getElem?_eq_getElem j];rfl
  have N:zs.take (d+1)=zs.take d ++ [zs[d]]:=by rw [List.take_add_one,List.getElem?_eq_getElem j];rfl
  have G:=I _ (List.getElem_mem j)
  unfold gZ
  rw [OM I d _ (by omega),List.map_append,GQ,M,Sb G.1 G.2,List.length_map,show (ic zs[d]).length=4 from rfl,N,mc,List.length_take,Nat.min_eq_left (by omega),bU,cp,show (256:Nat) ^ 4=4294967296 from rfl,Nat.pow_succ]
  simp only [Nat.mul_zero,Nat.add_zero,Nat.add_mul,Nat.mul_assoc,Nat.mul_comm (4294967296 ^ d)]
  rw [Nat.mul_comm 4294967296 (4294967296 ^ d)]
  omega
def OE (args:List AV):Option (Bool×AV):=match args with | [.lst _ 129 m f]=>some (okB m f&&decide (m≤17592186044416), .val (.string (az (vL (rowOf m f))))) | _=>none
theorem aec (l:List Int):vS (ofBytes l)=vB (l.map fun z=>UInt8.ofNat z.toNat):=rfl
theorem acH:Entry Tryz.prog 141 OE:=by
 intro args r h
 unfold OE at h
 split at h
 ·rename_i fl m f
  simp only [Option.some.injEq,Prod.mk.injEq,Bool.and_eq_true,decide_eq_true_eq] at h
  obtain ⟨⟨M,J⟩,rfl⟩:=h
  have bx:=cc m f
  have N:=(eM m f).1 M
  have S:rowOf m (ai (rowOf m f))=rowOf m f:=by rw [o8 _ (by omega),List.take_of_length_le (by omega)]
  have O:okB m (ai (rowOf m f))=true:=by rw [eM,S];exact N
  have a3:∃ w,aD Tryz.prog (r6 w fun s=>az (vS s)) 10 10 141 [.lst false 129 m (ai (rowOf m f))]=some (.val (.string (az (vL (rowOf m f))))):=by
   by_cases I:m=0
   ·refine ⟨true, ?_⟩
    have j:=acF (fun s=>az (vS s)) (rowOf m f) m
    have G:nR true m (ai (rowOf m f)) ((m:Int) - 1)=true:=by
     unfold nR
     rw [O,decide_eq_true J,decide_eq_true I]
     simp
    rw [G,eZ (by omega) (by omega)] at j
    rw [j]
    have:rowOf m f= []:=List.length_eq_zero_iff.1 (by omega)
    rw [this]
    rfl
   ·refine ⟨false, ?_⟩
    have j:=acG (fun s=>az (vS s)) (rowOf m f) m
    have G:nR false m (ai (rowOf m f)) ((m:Int) - 1)=true:=by
     unfold nR
     rw [O,decide_eq_true J,decide_eq_false I]
     simp
    have ab:=OF (rowOf m f) m []
    rw [List.length_nil,Nat.zero_add] at ab
    rw [G,S,eZ (by omega) (by omega),decide_eq_true (show 0+4*m*1≤(gZ (rowOf m f) m []).length by omega),List.take_of_length_le (show (gZ (rowOf m f) m []).length≤4*m*1 by omega)] at j
    rw [j]
    have U:=OM N m [] (by omega)
    rw [List.take_of_length_le (by omega),List.map_nil,zD,Nat.zero_mul,Nat.zero_add] at U
    show some (AV.val (.string (az (vS (ofBytes (gZ (rowOf m f) m []))))))=_
    rw [aec,U]
  obtain ⟨w,a0⟩:=a3
  intro B a6 a7 Z a1
  refine p9 (PX w) (PY w _) mixed (by kernel_rfl) a0 B a6 a7 Z ?_
  obtain ⟨y,zs,a2,a4,a5⟩:=a1
  rw [a2]
  exact ⟨y,zs,rfl,tG (cn bZ M a4),a5⟩
 ·cases h
end
end Go.Proofs.YtamcpiicmfielaaGreat.L
namespace Go.Proofs.YtamcpiicmfielaaGreat.L
open Go Go.V Go.RowKit Go.Proofs.YtamcpiicmfielaaGreat.Sp Go.Proofs.YtamcpiicmfielaaGreat.F Go.Proofs.YtamcpiicmfielaaGreatW.PrintWords
open Go.Proofs (Tryz.prog)
noncomputable section
abbrev wv:=Nat→(Nat→Nat→AV)→Nat→Nat→AV
def aaW (c:Nat→(Nat→Nat→AV)→Bool) (j:Nat→(Nat→Nat→AV)→Nat) (G:wv) (args:List AV):Option (Bool×AV):=match args with | [.lst fl 129 m f]=>some (c m f, .lst false 129 (j m f) (G m f)) | _=>none
def acJ (c:Nat→(Nat→Nat→AV)→Bool) (j:Nat→(Nat→Nat→AV)→ByteArray) (args:List AV):Option (Bool×AV):=match args with | [.lst _ 129 m f]=>some (c m f, .val (.string (j m f))) | _=>none
def vM (m:Nat) (f:Nat→Nat→AV):Bool:=okB m f&&decide (m≤140737488355328)
def pM (m:Nat) (f:Nat→Nat→AV):Nat:=(toL (vL (rowOf m f))).length
def pN:wv:=fun m f=>ai (toL (vL (rowOf m f)))
def vw (m:Nat) (f:Nat→Nat→AV):Bool:=okB m f&&decide (m≤17592186044416)
def vx (m:Nat) (f:Nat→Nat→AV):ByteArray:=az (vL (rowOf m f))
def z9 (j:Nat→(Nat→Nat→AV)→Bool) (I:Nat→(Nat→Nat→AV)→Nat) (M:wv) (G:Nat→(Nat→Nat→AV)→Bool) (J:Nat→(Nat→Nat→AV)→ByteArray):Env:= ⟨an 140 (aaW j I M) (an 141 (acJ G J) aF),fun _=>false,aq⟩
theorem PW:bb Tryz.prog (z9 vM pM pN vw vx).C:=((aH _).add acH).add O7
theorem Zf (J:Nat→(Nat→Nat→AV)→Bool) (j:Nat→(Nat→Nat→AV)→Nat) (G:wv) (M:Nat→(Nat→Nat→AV)→Bool) (I:Nat→(Nat→Nat→AV)→ByteArray) (b:Bool) (fl:Bool) (m:Nat) (f:Nat→Nat→AV):aD Tryz.prog (z9 J j G M I) 10 10 108 [.val (.bool b), .lst fl 129 m f]=
  (bif J m f then bif M (j m f) (G m f) then bif b then some (.agg [.val (.bool (!aG (I (j m f) (G m f)) ⟨#[]⟩)), .val (.string (I (j m f) (G m f)))]) else some (.agg [.val (.bool false), .val (.string (I (j m f) (G m f)))]) else none else none):=by kernel_rfl
theorem qH (n:Nat):aG (az n) ⟨#[]⟩=decide (n=0):=by
 rw [ON]
 by_cases h:n=0
 ·subst h
  rw [decide_eq_true ((toList_nil _).2 (by rw [oQ];exact toB_zero))]
  rfl
 ·rw [decide_eq_false h,decide_eq_false]
  intro e
  rw [toList_nil] at e
  have:=jc n
  unfold vS at this
  rw [e,zD] at this
  exact h this.symm
def nz (z:Int):AV:= .agg [.val (.bool (enc z).1), .val (.string (enc z).2)]
def L0 (args:List AV):Option (Bool×AV):=match args with | [.val (.bool b), .lst _ 129 m f]=>some (okB m f&&decide (m≤17592186044416),nz (if b=true then -(vL (rowOf m f):Int) else (vL (rowOf m f):Int))) | _=>none
theorem L4:Entry Tryz.prog 108 L0:=by
 refine im (E:=z9 vM pM pN vw vx) (u:=10) (d:=10) PW aK (by kernel_rfl) (fun args r h=> ?_)
 unfold L0 at h
 split at h
 ·rename_i b fl m f
  simp only [Option.some.injEq,Prod.mk.injEq,Bool.and_eq_true,decide_eq_true_eq] at h
  obtain ⟨⟨I,Z⟩,rfl⟩:=h
  have G:=Zf vM pM pN vw vx b fl m f
  have N:=(eM m f).1 I
  have U:(toL (vL (rowOf m f))).length≤m:=by
   have:=kJ (dD N)
   rwa [cc] at this
  have k1:vM m f=true:=by unfold vM;rw [I,decide_eq_true (show m≤140737488355328 by omega)];rfl
  have O:vw (pM m f) (pN m f)=true:=by unfold vw pM pN;rw [jJ,decide_eq_true (show (toL (vL (rowOf m f))).length≤17592186044416 by omega)];rfl
  have S:vx (pM m f) (pN m f)=az (vL (rowOf m f)):=by unfold vx pM pN;rw [lV,cK]
  rw [k1,O,S,qH] at G
  generalize vL (rowOf m f)=n at*
  have M:=Wh b n
  refine ⟨_,nz (if b=true then -(n:Int) else (n:Int)), ?_,fun B w ab j=>j,fun B w y j=>j⟩
  rw [G]
  unfold nz
  rw [← M]
  cases b with
  | true=>
   simp only [cond,Bool.true_and]
   by_cases J:n=0 <;> simp [J]
  | false=>rfl
 ·cases h
end
end Go.Proofs.YtamcpiicmfielaaGreat.L
namespace Go.Proofs.YtamcpiicmfielaaGreat.L
open Go Go.V Go.RowKit Go.Proofs.YtamcpiicmfielaaGreat.Sp Go.Proofs.YtamcpiicmfielaaGreat.F Go.Proofs.YtamcpiicmfielaaGreatW.PrintWords
open Go.Proofs (Tryz.prog)
noncomputable section
structure Sy where
 jg:ByteArray→Bool
 bC:ByteArray→Nat
 f47:ByteArray→Nat→Nat→AV
 ou:Bool→Nat→(Nat→Nat→AV)→Bool
 oo:Bool→Nat→(Nat→Nat→AV)→Bool
 pa:Bool→Nat→(Nat→Nat→AV)→ByteArray
 lk:Nat→(Nat→Nat→AV)→Nat→(Nat→Nat→AV)→Bool
 lr:Nat→(Nat→Nat→AV)→Nat→(Nat→Nat→AV)→Int
 NN:ByteArray→ByteArray
def Xw (j:Sy) (args:List AV):Option (Bool×AV):=match args with | [.val (.string s)]=>some (j.jg s, .lst false 129 (j.bC s) (j.f47 s)) | _=>none
def Ze (j:Sy) (args:List AV):Option (Bool×AV):=match args with | [.val (.bool b), .lst _ 129 m f]=>some (j.ou b m f, .agg [.val (.bool (j.oo b m f)), .val (.string (j.pa b m f))]) | _=>none
def TC (j:Sy) (args:List AV):Option (Bool×AV):=match args with | [.lst _ 129 m f, .lst _ 129 n g]=>some (j.lk m f n g, .val (.int .i64 (j.lr m f n g))) | _=>none
def sy:Sy where
 jg s:=decide (s.size≤140737488355328)
 bC s:=(toL (vS s)).length
 f47 s:=ai (toL (vS s))
 ou _ m f:=okB m f&&decide (m≤17592186044416)
 oo b m f:=(enc (if b=true then -(vL (rowOf m f):Int) else (vL (rowOf m f):Int))).1
 pa b m f:=(enc (if b=true then -(vL (rowOf m f):Int) else (vL (rowOf m f):Int))).2
 lk m f n g:=dH m f&&dH n g&&decide (m≤140737488355328)&&decide (n≤140737488355328)
 lr m f n g:=b9 (vL (rowOf m f)) (vL (rowOf n g))
 NN s:=az (vS s)
def CS (j:Sy):FuncId→List AV→Option (Bool×AV):=an 106 (Xw j) (an 108 (Ze j) (an 107 (TC j) (an 139 (Fl j.NN) aF)))
theorem zV:bb Tryz.prog (CS sy):=((((aH _).add yR).add JU).add L4).add Lh
def KS (g:FuncId):Bool:=g==108 ||g==107 ||g==140 ||g==141
def ES (j:Sy):Env:= ⟨CS j,KS,aq⟩
theorem CO (s:ByteArray):(toL (vS s)).length≤s.size:=by
 refine kJ (Nat.lt_of_lt_of_le (ld s) ?_)
 exact Nat.pow_le_pow_left (by decide) _
theorem mY (s:ByteArray) (h:s.size≤17592186044416):sy.jg s=true:=decide_eq_true (by omega)
theorem ac1 (b:Bool) (n:Nat) (h:(toL n).length≤17592186044416):sy.ou b (toL n).length (ai (toL n))=true:=by
 show (okB (toL n).length (ai (toL n))&&decide ((toL n).length≤17592186044416))=true
 rw [jJ,decide_eq_true h]
 rfl
theorem ac0 (b:Bool) (n:Nat):AV.agg [.val (.bool (sy.oo b (toL n).length (ai (toL n)))), .val (.string (sy.pa b (toL n).length (ai (toL n))))]=nz (if b=true then -(n:Int) else (n:Int)):=by
 show AV.agg [.val (.bool (enc (if b=true then -(vL (rowOf (toL n).length (ai (toL n))):Int) else (vL (rowOf (toL n).length (ai (toL n))):Int))).1), .val (.string (enc (if b=true then -(vL (rowOf (toL n).length (ai (toL n))):Int) else (vL (rowOf (toL n).length (ai (toL n))):Int))).2)]=_
 rw [lV,cK]
 rfl
theorem YL (j:Sy) (b:Bool) (s:ByteArray):aD Tryz.prog (ES j) 10 10 121 [.agg [.val (.bool b), .val (.string s)]]=
  (bif j.jg s then bif j.ou (!b) (j.bC s) (j.f47 s) then some (.agg [.val (.bool (j.oo (!b) (j.bC s) (j.f47 s))), .val (.string (j.pa (!b) (j.bC s) (j.f47 s)))]) else none else none):=by kernel_rfl
def LA (args:List AV):Option (Bool×AV):=match args with | [.agg [.val (.bool b), .val (.string s)]]=>some (decide (s.size≤17592186044416),nz (-(val b s))) | _=>none
theorem YM:Entry Tryz.prog 121 LA:=by
 refine im (E:=ES sy) (u:=10) (d:=10) zV aK (by kernel_rfl) (fun args r h=> ?_)
 unfold LA at h
 split at h
 ·rename_i b s
  simp only [Option.some.injEq,Prod.mk.injEq,decide_eq_true_eq] at h
  obtain ⟨M,rfl⟩:=h
  have G:=YL sy b s
  have J:sy.bC s=(toL (vS s)).length:=rfl
  have I:sy.f47 s=ai (toL (vS s)):=rfl
  have N:=CO s
  rw [mY s M,J,I,ac1 _ _ (by omega),ac0] at G
  refine ⟨_,_,G,fun B w O j=>j,fun B w y j=> ?_⟩
  have e:(if (!b)=true then -(vS s:Int) else (vS s:Int))= -(val b s):=by
   unfold val
   cases b <;> simp
  rw [e] at j
  exact j
 ·cases h
theorem SF (j:Sy) (s t:ByteArray):aD Tryz.prog (ES j) 10 10 64 [.agg [.val (.bool true), .val (.string s)], .agg [.val (.bool true), .val (.string t)]]=(bif j.jg s then bif j.jg t then bif decide ((0:Int) < (j.bC s:Int)) then bif decide ((0:Int) < (j.bC t:Int)) then bif j.lk (j.bC t) (j.f47 t) (j.bC s) (j.f47 s) then some (.val (.int .i64 (j.lr (j.bC t) (j.f47 t) (j.bC s) (j.f47 s)))) else none else bif decide ((0:Int) < (j.bC s:Int)) then some (.val (.int .i64 (-1))) else bif decide ((0:Int) < (j.bC t:Int)) then some (.val (.int .i64 1)) else bif j.lk (j.bC s) (j.f47 s) (j.bC t) (j.f47 t) then some (.val (.int .i64 (j.lr (j.bC s) (j.f47 s) (j.bC t) (j.f47 t)))) else none else bif decide ((0:Int) < (j.bC s:Int)) then some (.val (.int .i64 (-1))) else bif decide ((0:Int) < (j.bC t:Int)) then some (.val (.int .i64 1)) else bif j.lk (j.bC s) (j.f47 s) (j.bC t) (j.f47 t) then some (.val (.int .i64 (j.lr (j.bC s) (j.f47 s) (j.bC t) (j.f47 t)))) else none else none else none):=by kernel_rfl
theorem SE (j:Sy) (s t:ByteArray):aD Tryz.prog (ES j) 10 10 64 [.agg [.val (.bool true), .val (.string s)], .agg [.val (.bool false), .val (.string t)]]=(bif j.jg s then bif j.jg t then bif decide ((0:Int) < (j.bC s:Int)) then bif decide ((0:Int) < (j.bC s:Int)) then some (.val (.int .i64 (-1))) else bif j.lk (j.bC s) (j.f47 s) (j.bC t) (j.f47 t) then some (.val (.int .i64 (j.lr (j.bC s) (j.f47 s) (j.bC t) (j.f47 t)))) else none else bif decide ((0:Int) < (j.bC s:Int)) then some (.val (.int .i64 (-1))) else bif j.lk (j.bC s) (j.f47 s) (j.bC t) (j.f47 t) then some (.val (.int .i64 (j.lr (j.bC s) (j.f47 s) (j.bC t) (j.f47 t)))) else none else none else none):=by kernel_rfl
theorem SD (j:Sy) (s t:ByteArray):aD Tryz.prog (ES j) 10 10 64 [.agg [.val (.bool false), .val (.string s)], .agg [.val (.bool true), .val (.string t)]]=(bif j.jg s then bif j.jg t then bif decide ((0:Int) < (j.bC t:Int)) then some (.val (.int .i64 1)) else bif j.lk (j.bC s) (j.f47 s) (j.bC t) (j.f47 t) then some (.val (.int .i64 (j.lr (j.bC s) (j.f47 s) (j.bC t) (j.f47 t)))) else none else none else none):=by kernel_rfl
theorem SC (j:Sy) (s t:ByteArray):aD Tryz.prog (ES j) 10 10 64 [.agg [.val (.bool false), .val (.string s)], .agg [.val (.bool false), .val (.string t)]]=(bif j.jg s then bif j.jg t then bif j.lk (j.bC s) (j.f47 s) (j.bC t) (j.f47 t) then some (.val (.int .i64 (j.lr (j.bC s) (j.f47 s) (j.bC t) (j.f47 t)))) else none else none else none):=by kernel_rfl
theorem xW (n:Nat):decide ((0:Int) < ((toL n).length:Int))=decide (n≠0):=by
 by_cases h:n=0
 ·subst h
  rw [toL_zero]
  rfl
 ·rw [decide_eq_true h,decide_eq_true]
  rcases Nat.eq_zero_or_pos (toL n).length with j | j
  ·have G:=cK n
   rw [List.length_eq_zero_iff.1 j,cp] at G
   exact absurd G.symm h
  ·omega
theorem OW (a b:Nat) (j:(toL a).length≤140737488355328) (G:(toL b).length≤140737488355328):sy.lk (toL a).length (ai (toL a)) (toL b).length (ai (toL b))=true∧sy.lr (toL a).length (ai (toL a)) (toL b).length (ai (toL b))=b9 a b:=by
 constructor
 ·show (dH _ _&&dH _ _&&decide _&&decide _)=true
  rw [wM,wM,decide_eq_true j,decide_eq_true G]
  rfl
 ·show b9 (vL (rowOf _ _)) (vL (rowOf _ _))=_
  rw [lV,lV,cK,cK]
def JM (args:List AV):Option (Bool×AV):=match args with | [.agg [.val (.bool b), .val (.string s)], .agg [.val (.bool c), .val (.string t)]]=>some (decide (s.size≤17592186044416)&&decide (t.size≤17592186044416), .val (.int .i64 (cE (val b s) (val c t)))) | _=>none
theorem SA:Entry Tryz.prog 64 JM:=by
 refine im (E:=ES sy) (u:=10) (d:=10) zV aK (by kernel_rfl) (fun args r h=> ?_)
 unfold JM at h
 split at h
 ·rename_i b s c t
  simp only [Option.some.injEq,Prod.mk.injEq,Bool.and_eq_true,decide_eq_true_eq] at h
  obtain ⟨⟨O,S⟩,rfl⟩:=h
  have a3:=CO s
  have a4:=CO t
  obtain ⟨U,Z⟩:=OW (vS s) (vS t) (by omega) (by omega)
  obtain ⟨a1,a2⟩:=OW (vS t) (vS s) (by omega) (by omega)
  have I:sy.bC s=(toL (vS s)).length:=rfl
  have J:sy.f47 s=ai (toL (vS s)):=rfl
  have M:sy.bC t=(toL (vS t)).length:=rfl
  have N:sy.f47 t=ai (toL (vS t)):=rfl
  have a0:aD Tryz.prog (ES sy) 10 10 64 [.agg [.val (.bool b), .val (.string s)], .agg [.val (.bool c), .val (.string t)]]=some (.val (.int .i64 (cE (val b s) (val c t)))):=by
   cases b <;> cases c
   ·rw [SC,mY s O,mY t S,I,J,M,N,U,Z]
    simp only [cond,val,b9,cE]
    simp
   ·rw [SD,mY s O,mY t S,I,J,M,N,U,Z,xW]
    simp only [cond,val,b9,cE]
    by_cases j:vS t=0
    ·simp [j]
     try (intro h;omega)
    ·rw [decide_eq_true j]
     simp only [if_true,Bool.false_eq_true,if_false]
     rw [if_neg (by omega),if_pos (by omega)]
   ·rw [SE,mY s O,mY t S,I,J,M,N,U,Z,xW]
    simp only [val,b9,cE]
    by_cases j:vS s=0
    ·simp [j]
     try (split <;> first | rfl | rw [if_neg (by omega)])
    ·rw [decide_eq_true j]
     simp only [cond,if_true,Bool.false_eq_true,if_false]
     rw [if_pos (by omega)]
   ·rw [SF,mY s O,mY t S,I,J,M,N,U,Z,a1,a2,xW,xW]
    simp only [val,b9,cE]
    by_cases j:vS s=0
    ·by_cases G:vS t=0
     ·simp [j,G]
     ·simp [j,G]
      try omega
    ·by_cases G:vS t=0
     ·simp [j,G]
      try omega
     ·simp [j,G]
  exact ⟨_,_,a0,fun B w a5 ab=>ab,fun B w y ab=>ab⟩
 ·cases h
theorem vy (s t:ByteArray):aG s t=decide (s=t):=by
 unfold aG
 by_cases h:s=t
 ·rw [decide_eq_true h,h]
  simp
 ·rw [decide_eq_false h,← Bool.not_eq_true,beq_iff_eq]
  exact fun e=>h (nj e)
def Bz (b:Bool) (s:ByteArray):Int:=if az (vS s)=s then (if b=true∧s.toList= [] then 1 else 0) else 1
end
end Go.Proofs.YtamcpiicmfielaaGreat.L
namespace Go.Proofs.YtamcpiicmfielaaGreat.L
open Go Go.V Go.RowKit Go.Proofs.YtamcpiicmfielaaGreat.Sp Go.Proofs.YtamcpiicmfielaaGreat.F Go.Proofs.YtamcpiicmfielaaGreatW.PrintWords
open Go.Proofs (Tryz.prog)
noncomputable section
def two (w:Int):List Int:= [IntKind.u32.wrap w,IntKind.u32.wrap (w.fdiv (2 ^ min (Int.toNat 32) IntKind.u64.bits))]
theorem YY (j : Sy) (z : Int) : aD Tryz.prog (ES j) 10 10 69 [.val (.int .i64 z)] =
    (bif decide (z < 0) then bif j.ou (decide (z < 0)) 2 (ai (two (IntKind.u64.wrap (0 - IntKind.u64.wrap z)))) then some (.agg [.val (.bool (j.oo (decide (z < 0)) 2 (ai (two (IntKind.u64.wrap (0 - IntKind.u64.wrap z)))))), .val (.string (j.pa (decide (z < 0)) 2 (ai (two (IntKind.u64.wrap (0 - IntKind.u64.wrap z))))))]) else none
     else bif j.ou (decide (z < 0)) 2 (ai (two (IntKind.u64.wrap z))) then some (.agg [.val (.bool (j.oo (decide (z < 0)) 2 (ai (two (IntKind.u64.wrap z))))), .val (.string (j.pa (decide (z < 0)) 2 (ai (two (IntKind.u64.wrap z)))))]) else none) := by kernel_rfl
theorem ad3 {n:Nat} (h:n < 18446744073709551616):aI (two n)∧vL (two n)=n:=by
 have G:IntKind.u32.wrap (n:Int)=((n % 4294967296:Nat):Int):=by rw [IntKind.wrap_u32];omega
 have I:IntKind.u32.wrap ((n:Int).fdiv (2 ^ min (Int.toNat 32) IntKind.u64.bits))=((n / 4294967296:Nat):Int):=by
  rw [show ((2:Int) ^ min (Int.toNat 32) IntKind.u64.bits)=((4294967296:Nat):Int) from rfl,Int.fdiv_eq_ediv_of_nonneg _ (by omega),← Int.natCast_ediv,IntKind.wrap_u32]
  omega
 unfold two
 rw [G,I]
 refine ⟨fun x j=> ?_, ?_⟩
 ·simp only [List.mem_cons,List.not_mem_nil,or_false] at j
  rcases j with rfl | rfl <;> omega
 ·simp only [bU,cp,Int.toNat_natCast]
  omega
def LJ (args:List AV):Option (Bool×AV):=match args with | [.val (.int .i64 z)]=>some (decide (-9223372036854775808≤z)&&decide (z≤9223372036854775807),nz z) | _=>none
theorem OX (b:Bool) (n:Nat) (h:n < 18446744073709551616):sy.ou b 2 (ai (two n))=true∧AV.agg [.val (.bool (sy.oo b 2 (ai (two n)))), .val (.string (sy.pa b 2 (ai (two n))))]=nz (if b=true then -(n:Int) else (n:Int)):=by
 obtain ⟨G,I⟩:=ad3 h
 have j:rowOf 2 (ai (two n))=two n:=o8 (two n) (Nat.le_refl 2)
 constructor
 ·show (okB 2 (ai (two n))&&decide (2≤17592186044416))=true
  rw [(eM _ _).2 (by rw [j];exact G),decide_eq_true (by omega)]
  rfl
 ·show AV.agg [.val (.bool (enc (if b=true then -(vL (rowOf 2 (ai (two n))):Int) else (vL (rowOf 2 (ai (two n))):Int))).1), .val (.string (enc (if b=true then -(vL (rowOf 2 (ai (two n))):Int) else (vL (rowOf 2 (ai (two n))):Int))).2)]=_
  rw [j,I]
  rfl
theorem YZ:Entry Tryz.prog 69 LJ:=by
 refine im (E:=ES sy) (u:=10) (d:=10) zV aK (by kernel_rfl) (fun args r h=> ?_)
 unfold LJ at h
 split at h
 ·rename_i z
  simp only [Option.some.injEq,Prod.mk.injEq,Bool.and_eq_true,decide_eq_true_eq] at h
  obtain ⟨⟨O,S⟩,rfl⟩:=h
  have M:=YY sy z
  have N:aD Tryz.prog (ES sy) 10 10 69 [.val (.int .i64 z)]=some (nz z):=by
   rw [M]
   by_cases J:z < 0
   ·have e:IntKind.u64.wrap (0 - IntKind.u64.wrap z)=((z.natAbs:Nat):Int):=by rw [IntKind.wrap_u64,IntKind.wrap_u64];omega
    obtain ⟨G,I⟩:=OX true z.natAbs (by omega)
    rw [decide_eq_true J,e,G,I,if_pos rfl,show -((z.natAbs:Nat):Int)=z by omega]
    rfl
   ·have e:IntKind.u64.wrap z=((z.natAbs:Nat):Int):=by rw [IntKind.wrap_u64];omega
    obtain ⟨G,I⟩:=OX false z.natAbs (by omega)
    rw [decide_eq_false J,e,G,I,if_neg (by decide),show ((z.natAbs:Nat):Int)=z by omega]
    rfl
  exact ⟨_,_,N,fun B w U j=>j,fun B w y j=>j⟩
 ·cases h
end
end Go.Proofs.YtamcpiicmfielaaGreat.L
namespace Go.Proofs.YtamcpiicmfielaaGreat.L
open Go Go.V Go.RowKit Go.Proofs.YtamcpiicmfielaaGreat.Sp Go.Proofs.YtamcpiicmfielaaGreat.F Go.Proofs.YtamcpiicmfielaaGreatW.PrintWords
open Go.Proofs (Tryz.prog)
noncomputable section
structure Sg where
 len:Nat→Nat
 row:Nat→Nat→Nat→AV
 num:Nat→(Nat→Nat→AV)→Nat
 bL:Nat→(Nat→Nat→AV)→Bool
 aL:Nat→(Nat→Nat→AV)→Bool
 can:Nat→(Nat→Nat→AV)→Bool
 vs:ByteArray→Nat
 mg:Nat→ByteArray
 ok:ByteArray→Bool
 sg:Bool→Nat→Int
 val:Bool→ByteArray→Int
 ng:Int→Bool
 ms:Int→ByteArray
 cmp:Nat→Nat→Int
 fD:Int→Int→Int
 Bz:Bool→ByteArray→Int
 bl:Nat→Nat
def Sg.fF (j:Sg) (n:Nat):AV:= .lst false 129 (j.len n) (j.row n)
def Sg.int (j:Sg) (z:Int):AV:= .agg [.val (.bool (j.ng z)), .val (.string (j.ms z))]
def aa:Sg where
 len n:=(toL n).length
 row n:=ai (toL n)
 num m f:=vL (rowOf m f)
 bL m f:=okB m f&&decide (m≤17592186044416)
 aL m f:=okB m f&&decide (m≤8796093022208)
 can m f:=dH m f&&decide (m≤17592186044416)
 vs s:=vS s
 mg n:=az n
 ok s:=decide (s.size≤8796093022208)
 sg b n:=if b=true then -(n:Int) else (n:Int)
 val b s:=Sp.val b s
 ng z:=(enc z).1
 ms z:=(enc z).2
 cmp a b:=b9 a b
 fD a b:=cE a b
 Bz b s:=L.Bz b s
 bl n:=aU n
theorem mw (n:Nat):aa.num (aa.len n) (aa.row n)=n:=by
 show vL (rowOf (toL n).length (ai (toL n)))=n
 rw [lV,cK]
def bs (n:Nat):Nat:=(toB n).length
theorem oN (n:Nat):aa.len n≤bs n:=by
 show (toL n).length≤(toB n).length
 refine kJ (Nat.lt_of_lt_of_le (Ls (Nat.le_refl _)) ?_)
 exact Nat.pow_le_pow_left (by decide) _
theorem qP {n:Nat} (h:bs n≤17592186044416):aa.bL (aa.len n) (aa.row n)=true:=by
 show (okB (toL n).length (ai (toL n))&&decide ((toL n).length≤17592186044416))=true
 have:=oN n
 have j:(toL n).length≤17592186044416:=Nat.le_trans this h
 rw [jJ,decide_eq_true j]
 rfl
theorem qR {n:Nat} (h:bs n≤8796093022208):aa.aL (aa.len n) (aa.row n)=true:=by
 show (okB (toL n).length (ai (toL n))&&decide ((toL n).length≤8796093022208))=true
 have:=oN n
 have j:(toL n).length≤8796093022208:=Nat.le_trans this h
 rw [jJ,decide_eq_true j]
 rfl
theorem wO {n:Nat} (h:bs n≤17592186044416):aa.can (aa.len n) (aa.row n)=true:=by
 show (dH (toL n).length (ai (toL n))&&decide ((toL n).length≤17592186044416))=true
 have:=oN n
 have j:(toL n).length≤17592186044416:=Nat.le_trans this h
 rw [wM,decide_eq_true j]
 rfl
theorem dp (z:Int):aa.val (aa.ng z) (aa.ms z)=z:=Pm z
theorem pC (z:Int):(aa.ms z).size=bs z.natAbs:=kV _
theorem bA {z:Int} (h:bs z.natAbs≤8796093022208):aa.ok (aa.ms z)=true:=decide_eq_true (by rw [pC];exact h)
theorem lf (b:Bool) (s:ByteArray):aa.vs s=(aa.val b s).natAbs:=(YJ b s).symm
theorem ot (s:ByteArray):bs (aa.vs s)≤s.size:=xX (ld s)
theorem dv (b:Bool) (s:ByteArray):bs (aa.val b s).natAbs≤s.size:=by rw [← lf];exact ot s
theorem pQ (z:Int):aa.vs (aa.ms z)=z.natAbs:=jc _
theorem zG (n:Nat):aa.vs (aa.mg n)=n:=jc _
theorem ib {n m:Nat} (h:n < 256 ^ m):bs n≤m:=xX h
theorem ni (n:Nat):n < 256 ^ bs n:=Ls (Nat.le_refl _)
theorem du {a b:Nat} (h:a≤b):bs a≤bs b:=ib (Nat.lt_of_le_of_lt h (ni b))
theorem sj (a b:Nat):bs (a+b)≤max (bs a) (bs b)+1:=by
 apply ib
 have j:=Nat.lt_of_lt_of_le (ni a) (Nat.pow_le_pow_right (by decide:0 < 256) (Nat.le_max_left (bs a) (bs b)))
 have G:=Nat.lt_of_lt_of_le (ni b) (Nat.pow_le_pow_right (by decide:0 < 256) (Nat.le_max_right (bs a) (bs b)))
 rw [Nat.pow_succ]
 omega
theorem wH (a b:Nat):bs (a*b)≤bs a+bs b:=by
 apply ib
 rw [Nat.pow_add]
 exact Nat.mul_lt_mul'' (ni a) (ni b)
theorem Jx (a b:Nat):bs (a - b)≤bs a:=du (Nat.sub_le a b)
theorem RW (a b:Nat):bs (a / b)≤bs a:=du (Nat.div_le_self a b)
theorem RY (a b:Nat):bs (a % b)≤bs a:=du (Nat.mod_le a b)
theorem Bp (a b:Int):bs (a+b).natAbs≤max (bs a.natAbs) (bs b.natAbs)+1:=Nat.le_trans (du (Int.natAbs_add_le a b)) (sj _ _)
theorem cO (a b:Int):bs (a*b).natAbs≤bs a.natAbs+bs b.natAbs:=by rw [Int.natAbs_mul];exact wH _ _
theorem wI (a:Int):bs (-a).natAbs=bs a.natAbs:=by rw [Int.natAbs_neg]
def nY (j:Sg) (args:List AV):Option (Bool×AV):=match args with | [.val (.string s)]=>some (true, .val (.string (j.mg (j.vs s)))) | _=>none
def vA (j:Sg) (args:List AV):Option (Bool×AV):=match args with | [.val (.string s)]=>some (j.ok s,j.fF (j.vs s)) | _=>none
def zw (j:Sg) (args:List AV):Option (Bool×AV):=match args with | [.lst _ 129 m f]=>some (j.bL m f,j.fF (j.num m f)) | _=>none
def y4 (j:Sg) (args:List AV):Option (Bool×AV):=match args with | [.val (.bool b), .lst _ 129 m f]=>some (j.bL m f,j.int (j.sg b (j.num m f))) | _=>none
def vz (j:Sg) (args:List AV):Option (Bool×AV):=match args with | [.lst _ 129 m f, .lst _ 129 n g]=>some (j.can m f&&j.can n g, .val (.int .i64 (j.cmp (j.num m f) (j.num n g)))) | _=>none
def kX (j:Sg) (args:List AV):Option (Bool×AV):=match args with | [.agg [.val (.bool b), .val (.string s)]]=>some (j.ok s,j.int (-(j.val b s))) | _=>none
def nV (j:Sg) (args:List AV):Option (Bool×AV):=match args with | [.agg [.val (.bool b), .val (.string s)], .agg [.val (.bool c), .val (.string t)]]=>some (j.ok s&&j.ok t, .val (.int .i64 (j.fD (j.val b s) (j.val c t)))) | _=>none
def cI (z:Int):Bool:=decide (-9223372036854775808≤z)&&decide (z≤9223372036854775807)
def kB (j:Sg) (args:List AV):Option (Bool×AV):=match args with | [.val (.int .i64 z)]=>some (cI z,j.int z) | _=>none
theorem tk {g:FuncId} {f j:List AV→Option (Bool×AV)} (h:Entry Tryz.prog g f) (G:∀ args r,j args=some (true,r)→f args=some (true,r)):Entry Tryz.prog g j:=fun args r I=>h args r (G args r I)
theorem BS:Entry Tryz.prog 106 (vA aa):=tk Lh fun args r h=>by
 unfold vA at h
 split at h
 ·simp only [Option.some.injEq,Prod.mk.injEq] at h
  obtain ⟨j,rfl⟩:=h
  have G:=of_decide_eq_true j
  exact congrArg some (Prod.ext (show decide (_≤140737488355328)=true from decide_eq_true (Nat.le_trans G (by decide))) rfl)
 ·cases h
theorem Kp:Entry Tryz.prog 140 (zw aa):=tk O7 fun args r h=>by
 unfold zw at h
 split at h
 ·simp only [Option.some.injEq,Prod.mk.injEq] at h
  obtain ⟨j,rfl⟩:=h
  have j:(okB _ _&&decide (_≤_))=true:=j
  rw [Bool.and_eq_true,decide_eq_true_eq] at j
  exact congrArg some (Prod.ext (show (okB _ _&&decide (_≤140737488355328))=true by rw [j.1,decide_eq_true (Nat.le_trans j.2 (by decide))];rfl) rfl)
 ·cases h
theorem BU:Entry Tryz.prog 108 (y4 aa):=L4
theorem BQ:Entry Tryz.prog 107 (vz aa):=tk JU fun args r h=>by
 unfold vz at h
 split at h
 ·simp only [Option.some.injEq,Prod.mk.injEq] at h
  obtain ⟨j,rfl⟩:=h
  have j:((dH _ _&&decide (_≤_))&&(dH _ _&&decide (_≤_)))=true:=j
  simp only [Bool.and_eq_true,decide_eq_true_eq] at j
  obtain ⟨⟨G,I⟩,J,M⟩:=j
  exact congrArg some (Prod.ext (show (dH _ _&&dH _ _&&decide (_≤140737488355328)&&decide (_≤140737488355328))=true by rw [G,J,decide_eq_true (Nat.le_trans I (by decide)),decide_eq_true (Nat.le_trans M (by decide))];rfl) rfl)
 ·cases h
theorem J8:Entry Tryz.prog 121 (kX aa):=tk YM fun args r h=>by
 unfold kX at h
 split at h
 ·simp only [Option.some.injEq,Prod.mk.injEq] at h
  obtain ⟨j,rfl⟩:=h
  have G:=of_decide_eq_true j
  exact congrArg some (Prod.ext (show decide (_≤17592186044416)=true from decide_eq_true (Nat.le_trans G (by decide))) rfl)
 ·cases h
theorem J4:Entry Tryz.prog 64 (nV aa):=tk SA fun args r h=>by
 unfold nV at h
 split at h
 ·simp only [Option.some.injEq,Prod.mk.injEq] at h
  obtain ⟨j,rfl⟩:=h
  have j:(decide (_≤_)&&decide (_≤_))=true:=j
  simp only [Bool.and_eq_true,decide_eq_true_eq] at j
  exact congrArg some (Prod.ext (show (decide (_≤17592186044416)&&decide (_≤17592186044416))=true by rw [decide_eq_true (Nat.le_trans j.1 (by decide)),decide_eq_true (Nat.le_trans j.2 (by decide))];rfl) rfl)
 ·cases h
theorem xu:Entry Tryz.prog 69 (kB aa):=YZ
theorem dT {p:Prop} [Decidable p] (h:p):decide p=true:=decide_eq_true h
theorem dF {p:Prop} [Decidable p] (h:¬ p):decide p=false:=decide_eq_false h
theorem aO {z:Int} (h: -9223372036854775808≤z∧z≤9223372036854775807):aj .i64 z=true:=eZ h.1 h.2
theorem cT {z:Int} (h:0≤z∧z≤18446744073709551615):aj .u64 z=true:=by
 unfold aj;rw [Bool.and_eq_true,decide_eq_true_eq,decide_eq_true_eq];exact h
theorem dm (n:Nat):IntKind.u32.wrap (n:Int)=((n % 4294967296:Nat):Int):=by rw [IntKind.wrap_u32];omega
theorem rN (n:Nat):IntKind.u64.wrap (n:Int)=((n % 18446744073709551616:Nat):Int):=by rw [IntKind.wrap_u64];omega
theorem gA (a b:Nat):(a:Int).fdiv (b:Int)=((a / b:Nat):Int):=by rw [Int.fdiv_eq_ediv_of_nonneg _ (by omega)];rfl
theorem ji (a:Nat):(a:Int).fdiv (4294967296:Int)=((a / 4294967296:Nat):Int):=gA a 4294967296
theorem cu {l:List Int} (h:aI l) (i:Nat) (G:i < l.length):∃ a:Nat,a < 4294967296∧l[i]=(a:Int)∧l.getD i 0=(a:Int):=by
 obtain ⟨a,I,j⟩:=Xu h i G
 exact ⟨a,I,j,by rw [List.getD_eq_getElem?_getD,List.getElem?_eq_getElem G,Option.getD_some,j]⟩
theorem yI (n:Nat) (h:n≤35184372088832):cA Tryz.prog n 129=true:=by
 unfold cA
 rw [Bool.and_eq_true,decide_eq_true_eq,decide_eq_true_eq,show Tryz.prog.bytesOf 129=4 by kernel_rfl]
 omega
theorem jZ (zs:List Int):rowOf zs.length (ai zs)=zs:=by rw [o8 _ (Nat.le_refl _),List.take_length]
theorem lI {zs:List Int} (h:aI zs) (j:zs.length≤17592186044416):aa.bL zs.length (ai zs)=true:=by
 show (okB _ _&&decide _)=true
 rw [(eM _ _).2 (by rw [jZ];exact h),decide_eq_true j]
 rfl
theorem lC (zs:List Int):aa.num zs.length (ai zs)=vL zs:=by
 show vL (rowOf _ _)=_
 rw [jZ]
theorem iH {zs:List Int} (h:aI zs):okB zs.length (ai zs)=true:=(eM _ _).2 (by rw [jZ];exact h)
theorem kL {fl:Bool} {m:Nat} {f:Nat→Nat→AV} {α:Nat→Nat×Nat} {B:Nat→Prop} {w:World} {D:Nat→Prop} {x:Value} (j:okB m f=true) (h:(AV.lst fl 129 m f).Rel Tryz.prog α B w D x):(AV.lst false 129 (rowOf m f).length (ai (rowOf m f))).Rel Tryz.prog α B w D x:=by
 rw [cc]
 exact tG (cn bZ j h)
theorem LU {m:Nat} {f:Nat→Nat→AV} (h:aa.bL m f=true):okB m f=true∧aI (rowOf m f)∧(rowOf m f).length≤17592186044416∧aa.num m f=vL (rowOf m f):=by
 have h:(okB m f&&decide (m≤17592186044416))=true:=h
 rw [Bool.and_eq_true,decide_eq_true_eq] at h
 exact ⟨h.1,(eM _ _).1 h.1,by rw [cc];exact h.2,rfl⟩
theorem qQ {m:Nat} {f:Nat→Nat→AV} (h:aa.aL m f=true):okB m f=true∧aI (rowOf m f)∧(rowOf m f).length≤8796093022208∧aa.num m f=vL (rowOf m f):=by
 have h:(okB m f&&decide (m≤8796093022208))=true:=h
 rw [Bool.and_eq_true,decide_eq_true_eq] at h
 exact ⟨h.1,(eM _ _).1 h.1,by rw [cc];exact h.2,rfl⟩
theorem so {m:Nat} {f:Nat→Nat→AV} (h:aa.can m f=true):okB m f=true∧aI (rowOf m f)∧(rowOf m f).length≤17592186044416∧aa.num m f=vL (rowOf m f)∧rowOf m f=toL (aa.num m f):=by
 have h:(dH m f&&decide (m≤17592186044416))=true:=h
 rw [Bool.and_eq_true,decide_eq_true_eq] at h
 obtain ⟨j,G⟩:=h
 unfold dH at j
 rw [Bool.and_eq_true,decide_eq_true_eq] at j
 exact ⟨j.1,(eM _ _).1 j.1,by rw [cc];exact G,rfl,j.2⟩
theorem bz (n:Nat) (h:n≤140737488355328):aj .i64 (n:Int)=true:=aO (by omega)
def kK (a b:Int):Int:= @ite Int (a < b) (Int.decLt a b) b a
theorem Ly (a b:Nat):kK (a:Int) (b:Int)=((max a b:Nat):Int):=by
 unfold kK
 by_cases h:(a:Int) < b
 ·rw [if_pos h];omega
 ·rw [if_neg h];omega
end
end Go.Proofs.YtamcpiicmfielaaGreat.L
namespace Go.Proofs.YtamcpiicmfielaaGreat.L
open Go Go.V Go.RowKit Go.Proofs.YtamcpiicmfielaaGreat.Sp Go.Proofs.YtamcpiicmfielaaGreat.F Go.Proofs.YtamcpiicmfielaaGreatW.PrintWords
open Go.Proofs (Tryz.prog)
noncomputable section
abbrev fR:List Bool:= [false,true,false,true,true,true,true]
def fw (G:List Int) (zs:List Int) (c:Int) (j:List Int) (n:Int) (i:Int):List AV:=av 56 [(1, .lst false 129 G.length (ai G)),(5, .sl false 129 0 0 zs.length),(6, .val (.int .u64 c)),(20, .lst false 129 j.length (ai j)),(21, .val (.int .i64 n)),(22, .val (.int .i64 i))]
def eY (G:List Int) (zs:List Int) (c:Int) (j:List Int) (n:Int) (i:Int):Hp:= [.row (.ints .u32 zs) 129 .live]
theorem Rt:aJ Tryz.prog 118 fR=some (.loop (lb 118 fR)):=by kernel_rfl
theorem S2:aJ Tryz.prog 118 (false :: fR)=some (lb 118 fR):=by kernel_rfl
theorem Nd (G:List Int) (zs:List Int) (c:Int) (j:List Int) (n:Int) (i:Int):letI I:=(IntKind.u64.wrap (IntKind.u64.wrap (c+j.getD i.toNat (0:Int))+G.getD i.toNat (0:Int)));
  (aN Tryz.prog bj 118 [1,5,6,20,21,22] (lb 118 fR) (false :: fR) (fw G zs c j n i) (eY G zs c j n i)=(bif decide (i < n) then (bif decide ((0:Int)≤i)&&decide (i < (↑j.length:Int)) then (bif aj IntKind.u64 (j.getD i.toNat (0:Int)) then (bif decide (i < (↑G.length:Int)) then (bif decide ((0:Int)≤i)&&decide (i < (↑G.length:Int)) then (bif aj IntKind.u64 (G.getD i.toNat (0:Int)) then (bif decide (zs.length*(1:Nat)≤zs.length)&&cA Tryz.prog (zs.length+(1:Nat)) (129:Nat)&&true then (bif aj IntKind.i64 (i+(1:Int)) then some (.normal,av 56 [(1,(.lst false 129 G.length (ai G))),(5,(.sl false 129 0 0 (zs.length+(1:Nat)))),(6,(.val (.int .u64 (I.fdiv (4294967296:Int))))),(20,(.lst false 129 j.length (ai j))),(21,(.val (.int .i64 n))),(22,(.val (.int .i64 (i+(1:Int)))))], [(.row (.ints .u32 (List.take (zs.length*(1:Nat)) zs ++ [IntKind.u32.wrap I])) 129 .live)]) else none) else none) else none) else none) else (bif decide (zs.length*(1:Nat)≤zs.length)&&cA Tryz.prog (zs.length+(1:Nat)) (129:Nat)&&true then (bif aj IntKind.i64 (i+(1:Int)) then some (.normal,av 56 [(1,(.lst false 129 G.length (ai G))),(5,(.sl false 129 0 0 (zs.length+(1:Nat)))),(6,(.val (.int .u64 ((IntKind.u64.wrap (c+j.getD i.toNat (0:Int))).fdiv (4294967296:Int))))),(20,(.lst false 129 j.length (ai j))),(21,(.val (.int .i64 n))),(22,(.val (.int .i64 (i+(1:Int)))))], [(.row (.ints .u32 (List.take (zs.length*(1:Nat)) zs ++ [IntKind.u32.wrap (IntKind.u64.wrap (c+j.getD i.toNat (0:Int)))])) 129 .live)]) else none) else none)) else none) else none) else some ((.exit 0),av 56 [(1,(.lst false 129 G.length (ai G))),(5,(.sl false 129 0 0 zs.length)),(6,(.val (.int .u64 c))),(20,(.lst false 129 j.length (ai j))),(21,(.val (.int .i64 n))),(22,(.val (.int .i64 i)))], [(.row (.ints .u32 zs) 129 .live)]))):=by kernel_rfl
theorem E6 {G:List Int} {zs:List Int} {c:Int} {j:List Int} {n:Int} {i:Int} {e:Ex} {T:List AV} {H:Hp} (h:aN Tryz.prog bj 118 [1,5,6,20,21,22] (lb 118 fR) (false :: fR) (fw G zs c j n i) (eY G zs c j n i)=some (e,T,H)):V.Ends Tryz.prog false 0 0 (lb 118 fR) (fw G zs c j n i) (eY G zs c j n i) e T H:=
 bw (aH _) aK mixed S2 h
def uv (G:List Int) (zs:List Int) (c:Int) (j:List Int) (n:Int) (i:Int):Prop:=
 aI G∧aI j∧G.length≤j.length∧j.length≤17592186044416∧n=j.length∧c=0∧i=0∧zs= []
def Ds (G:List Int) (zs:List Int) (c:Int) (j:List Int) (n:Int) (i:Int) (r:Int×Int×List Int):Prop:=
 aI r.2.2∧r.2.2.length=j.length∧∃ k:Nat,k≤1∧r.1=k∧vL r.2.2+4294967296 ^ j.length*k=vL j+vL G
theorem Zv (G j:List Int) (b2:aI G) (bD:aI j) (b5:G.length≤j.length) (b4:j.length≤17592186044416) (d:Nat):∀ (i c:Nat) (out:List Int),i+d=j.length→aI out→out.length=i→c≤1→
  vL out+4294967296 ^ i*c=vL (j.take i)+vL (G.take i)→
  ∃ r:Int×Int×List Int,aw Tryz.prog (lb 118 fR) (fw G out c j j.length i) (eY G out c j j.length i) (.exit 0) (fw G r.2.2 r.1 j j.length r.2.1) (eY G r.2.2 r.1 j j.length r.2.1)∧
   aI r.2.2∧r.2.2.length=j.length∧∃ k:Nat,k≤1∧r.1=k∧vL r.2.2+4294967296 ^ j.length*k=vL j+vL G:=by
 induction d with
 | zero=>
  intro i c out a7 N M ab U
  have bx:i=j.length:=by omega
  subst bx
  refine ⟨((c:Int),(j.length:Int),out), .last (E6 ?_) (by intro h;cases h),N,M,c,ab,rfl, ?_⟩
  ·rw [Nd,dF (show ¬ ((j.length:Int) < j.length) by omega)]
   rfl
  ·rw [U,List.take_of_length_le (by omega),List.take_of_length_le (by omega)]
 | succ d a3=>
  intro i c out a7 N M ab U
  have a0:i < j.length:=by omega
  obtain ⟨a,b3,a5,b0⟩:=cu bD i a0
  have a2:=kD j i a0
  rw [a5,Int.toNat_natCast] at a2
  have S:=Nd G out c j j.length i
  rw [Int.toNat_natCast,b0,dT (show (i:Int) < j.length by omega),dT (show (0:Int)≤(i:Int) by omega),cT (show 0≤(a:Int)∧(a:Int)≤18446744073709551615 by omega),aO (show -9223372036854775808≤(i:Int)+1∧(i:Int)+1≤9223372036854775807 by omega),dT (show out.length*1≤out.length by omega),yI _ (show out.length+1≤35184372088832 by omega),Nat.mul_one,List.take_length] at S
  have a4:∀ b:Nat,b < 4294967296→vL (G.take (i+1))=vL (G.take i)+4294967296 ^ i*b→
    vL (out ++ [(((c+a+b) % 4294967296:Nat):Int)])+4294967296 ^ (i+1)*((c+a+b) / 4294967296)=vL (j.take (i+1))+vL (G.take (i+1)):=by
   intro b Z I
   rw [rQ,M,Int.toNat_natCast,Nat.pow_succ,a2,I]
   have J:=Sk (n:=c+a+b) U
   simp only [Nat.mul_add] at J ⊢
   omega
  by_cases a1:i < G.length
  ·obtain ⟨b,Z,a6,b1⟩:=cu b2 i a1
   have I:=kD G i a1
   rw [a6,Int.toNat_natCast] at I
   obtain ⟨r,J,O⟩:=a3 (i+1) ((c+a+b) / 4294967296) (out ++ [(((c+a+b) % 4294967296:Nat):Int)]) (by omega) (tL.2 ⟨N,by rw [my];exact ⟨ly _,oS⟩⟩) (by simp [M]) (by omega) (a4 b Z I)
   refine ⟨r, .more (E6 (T:=fw G (out ++ [(((c+a+b) % 4294967296:Nat):Int)]) ((c+a+b) / 4294967296:Nat) j j.length (i+1:Nat)) (H:=eY G (out ++ [(((c+a+b) % 4294967296:Nat):Int)]) ((c+a+b) / 4294967296:Nat) j j.length (i+1:Nat)) ?_) J,O⟩
   rw [S,dT (show (i:Int) < G.length by omega),b1,cT (show 0≤(b:Int)∧(b:Int)≤18446744073709551615 by omega),← Int.natCast_add,rN,Nat.mod_eq_of_lt (show c+a < 18446744073709551616 by omega),← Int.natCast_add,rN,Nat.mod_eq_of_lt (show c+a+b < 18446744073709551616 by omega),dm,ji]
   unfold fw eY
   rw [List.length_append]
   rfl
  ·have I:vL (G.take (i+1))=vL (G.take i)+4294967296 ^ i*0:=by rw [List.take_of_length_le (by omega),List.take_of_length_le (by omega)];simp
   obtain ⟨r,J,O⟩:=a3 (i+1) ((c+a+0) / 4294967296) (out ++ [(((c+a+0) % 4294967296:Nat):Int)]) (by omega) (tL.2 ⟨N,by rw [my];exact ⟨ly _,oS⟩⟩) (by simp [M]) (by omega) (a4 0 (by omega) I)
   refine ⟨r, .more (E6 (T:=fw G (out ++ [(((c+a+0) % 4294967296:Nat):Int)]) ((c+a+0) / 4294967296:Nat) j j.length (i+1:Nat)) (H:=eY G (out ++ [(((c+a+0) % 4294967296:Nat):Int)]) ((c+a+0) / 4294967296:Nat) j j.length (i+1:Nat)) ?_) J,O⟩
   rw [S,dF (show ¬ (i:Int) < G.length by omega),← Int.natCast_add,rN,Nat.mod_eq_of_lt (show c+a < 18446744073709551616 by omega),dm,ji]
   unfold fw eY
   rw [List.length_append]
   rfl
theorem XZ (G:List Int) (zs:List Int) (c:Int) (j:List Int) (n:Int) (i:Int) (h:uv G zs c j n i):∃ r:Int×Int×List Int,aw Tryz.prog (lb 118 fR) (fw G zs c j n i) (eY G zs c j n i) (.exit 0) (fw G r.2.2 r.1 j n r.2.1) (eY G r.2.2 r.1 j n r.2.1)∧Ds G zs c j n i r:=by
 obtain ⟨I,J,M,N,rfl,rfl,rfl,rfl⟩:=h
 exact Zv G j I J M N j.length 0 0 [] (by omega) oS rfl (by omega) (by simp [cp])
def Ge (O:List Int→List Int→Int→List Int→Int→Int→Bool) (M:List Int→List Int→Int→List Int→Int→Int→Int×Int×List Int) (T:List AV) (H:Hp):Option (Bool×Ex×List AV×Hp):=
 match al T 1,al T 5,al T 6,al T 20,al T 21,al T 22,H with
 | .lst false 129 J G, .sl false 129 0 0 N, .val (.int .u64 c), .lst false 129 I j, .val (.int .i64 n), .val (.int .i64 i), [.row (.ints .u32 zs) 129 .live]=>bif T.length==56 then some (okB J G&&okB I j&&decide (N=zs.length)&&O (rowOf J G) zs c (rowOf I j) n i, .exit 0,fw (rowOf J G) ((M (rowOf J G) zs c (rowOf I j) n i).2.2) ((M (rowOf J G) zs c (rowOf I j) n i).1) (rowOf I j) n ((M (rowOf J G) zs c (rowOf I j) n i).2.1),eY (rowOf J G) ((M (rowOf J G) zs c (rowOf I j) n i).2.2) ((M (rowOf J G) zs c (rowOf I j) n i).1) (rowOf I j) n ((M (rowOf J G) zs c (rowOf I j) n i).2.1)) else none
 | _,_,_,_,_,_,_=>none
def jP (G:List Int) (zs:List Int) (c:Int) (j:List Int) (n:Int) (i:Int):Int×Int×List Int:=Classical.epsilon fun ρ=>aw Tryz.prog (lb 118 fR) (fw G zs c j n i) (eY G zs c j n i) (.exit 0) (fw G (ρ.2.2) (ρ.1) j n (ρ.2.1)) (eY G (ρ.2.2) (ρ.1) j n (ρ.2.1))∧Ds G zs c j n i ρ
theorem Mr (G:List Int) (zs:List Int) (c:Int) (j:List Int) (n:Int) (i:Int) (h:uv G zs c j n i):aw Tryz.prog (lb 118 fR) (fw G zs c j n i) (eY G zs c j n i) (.exit 0) (fw G ((jP G zs c j n i).2.2) ((jP G zs c j n i).1) j n ((jP G zs c j n i).2.1)) (eY G ((jP G zs c j n i).2.2) ((jP G zs c j n i).1) j n ((jP G zs c j n i).2.1))∧Ds G zs c j n i (jP G zs c j n i):=Classical.epsilon_spec (XZ G zs c j n i h)
def sF (G:List Int) (zs:List Int) (c:Int) (j:List Int) (n:Int) (i:Int):Bool:= @decide (uv G zs c j n i) (Classical.propDecidable _)
theorem TY (G:List Int) (zs:List Int) (c:Int) (j:List Int) (n:Int) (i:Int) (h:uv G zs c j n i):sF G zs c j n i=true:= @decide_eq_true _ (Classical.propDecidable _) h
theorem adu (T:List AV) (H:Hp) (e:Ex) (I:List AV) (G:Hp) (h:Ge sF jP T H=some (true,e,I,G)):V.Ends Tryz.prog false 0 0 (.loop (lb 118 fR)) T H e I G:=by
 unfold Ge at h
 split at h
 ·rename_i bx O bD c a7 N n i zs S a0 a1 U Z ab
  rw [Bool.cond_eq_ite] at h
  split at h
  ·rename_i J
   rw [beq_iff_eq] at J
   simp only [Option.some.injEq,Prod.mk.injEq,Bool.and_eq_true,decide_eq_true_eq] at h
   obtain ⟨⟨⟨⟨k1,a3⟩,a4⟩,a5⟩,rfl,rfl,rfl⟩:=h
   have a6:= @of_decide_eq_true _ (Classical.propDecidable _) a5
   refine Ends.pre (Mr (rowOf bx O) zs c (rowOf a7 N) n i a6).1.ends (fun α B w D b0 a2=>bm J (fun p M y j=> ?_) a2)
   simp only [List.mem_cons,List.not_mem_nil,or_false] at M
   rcases M with rfl | rfl | rfl | rfl | rfl | rfl
   ·rw [S] at j;rw [cc];exact cn bZ k1 j
   ·rw [a0] at j;rw [← a4];exact j
   ·rw [a1] at j;exact j
   ·rw [U] at j;rw [cc];exact cn bZ a3 j
   ·rw [Z] at j;exact j
   ·rw [ab] at j;exact j
  ·cases h
 ·cases h
def CT (j:Sg):FuncId→List AV→Option (Bool×AV):=an 140 (zw j) aF
theorem rZ:bb Tryz.prog (CT aa):=(aH _).add Kp
def ar (_:FuncId):Bool:=true
def Aa (j:Sg) (c:List Int→List Int→Int→List Int→Int→Int→Bool) (G:List Int→List Int→Int→List Int→Int→Int→Int×Int×List Int):Env:= ⟨CT j,ar,mh 118 fR [1,5,6,20,21,22] (Ge c G) aq⟩
theorem MT (I:Sg) (c:List Int→List Int→Int→List Int→Int→Int→Bool) (Z:List Int→List Int→Int→List Int→Int→Int→Int×Int×List Int) (j G:List Int):letI J:=(Z (rowOf j.length (ai j)) [] (0:Int) (rowOf G.length (ai G)) (↑G.length:Int) (0:Int));letI M:=(Z (rowOf G.length (ai G)) [] (0:Int) (rowOf j.length (ai j)) (↑j.length:Int) (0:Int));letI S:=(List.take (J.snd.snd.length*(1:Nat)) J.snd.snd ++ [IntKind.u32.wrap J.fst]);letI U:=(List.take (M.snd.snd.length*(1:Nat)) M.snd.snd ++ [IntKind.u32.wrap M.fst]);letI N:=(J.snd.snd.length+(1:Nat));letI O:=(M.snd.snd.length+(1:Nat));
  (aD Tryz.prog (Aa I c Z) 10 10 118 [.lst false 129 j.length (ai j), .lst false 129 G.length (ai G)]=(bif decide ((↑j.length:Int) < (↑G.length:Int)) then (bif aj IntKind.i64 ((↑G.length:Int)+(1:Int)) then (bif decide ((4:Int)*((↑G.length:Int)+(1:Int))≤(281474976710656:Int))&&decide ((↑G.length:Int)+(1:Int)≤(9223372036854775807:Int)) then (bif okB j.length (ai j)&&okB G.length (ai G)&&true&&c (rowOf j.length (ai j)) [] (0:Int) (rowOf G.length (ai G)) (↑G.length:Int) (0:Int) then (bif decide (J.snd.snd.length*(1:Nat)≤J.snd.snd.length)&&cA Tryz.prog N (129:Nat)&&true then (bif decide ((0:Nat)+N*(1:Nat)≤S.length) then (bif I.bL N (ai S) then some (.lst false 129 (I.len (I.num N (ai S))) (I.row (I.num N (ai S)))) else none) else none) else none) else none) else none) else none) else (bif aj IntKind.i64 ((↑j.length:Int)+(1:Int)) then (bif decide ((4:Int)*((↑j.length:Int)+(1:Int))≤(281474976710656:Int))&&decide ((↑j.length:Int)+(1:Int)≤(9223372036854775807:Int)) then (bif okB G.length (ai G)&&okB j.length (ai j)&&true&&c (rowOf G.length (ai G)) [] (0:Int) (rowOf j.length (ai j)) (↑j.length:Int) (0:Int) then (bif decide (M.snd.snd.length*(1:Nat)≤M.snd.snd.length)&&cA Tryz.prog O (129:Nat)&&true then (bif decide ((0:Nat)+O*(1:Nat)≤U.length) then (bif I.bL O (ai U) then some (.lst false 129 (I.len (I.num O (ai U))) (I.row (I.num O (ai U)))) else none) else none) else none) else none) else none) else none))):=by kernel_rfl
def y5 (j:Sg) (args:List AV):Option (Bool×AV):=match args with | [.lst _ 129 m f, .lst _ 129 n g]=>some (j.aL m f&&j.aL n g,j.fF (j.num m f+j.num n g)) | _=>none
theorem Zw (j G:List Int) (U:aI j) (Z:aI G) (a2:j.length≤8796093022208) (a3:G.length≤8796093022208):aD Tryz.prog (Aa aa sF jP) 10 10 118 [.lst false 129 j.length (ai j), .lst false 129 G.length (ai G)]=some (aa.fF (vL j+vL G)):=by
 have a1:∀ (I vs:List Int),aI I→aI vs→I.length≤vs.length→vs.length≤8796093022208→∃ r:Int×Int×List Int,jP I [] 0 vs vs.length 0=r∧sF I [] 0 vs vs.length 0=true∧aI (r.2.2 ++ [IntKind.u32.wrap r.1])∧r.2.2.length=vs.length∧vL (r.2.2 ++ [IntKind.u32.wrap r.1])=vL vs+vL I:=by
  intro I vs a4 a5 J a6
  have a0:uv I [] 0 vs vs.length 0:= ⟨a4,a5,J,by omega,rfl,rfl,rfl,rfl⟩
  obtain ⟨_,N,M,k,S,ab,O⟩:=Mr I [] 0 vs vs.length 0 a0
  have e:IntKind.u32.wrap (jP I [] 0 vs vs.length 0).1=(k:Int):=by rw [ab,dm,Nat.mod_eq_of_lt (by omega)]
  refine ⟨_,rfl,TY _ _ _ _ _ _ a0, ?_,M, ?_⟩
  ·rw [e];exact tL.2 ⟨N,by rw [my];exact ⟨by omega,oS⟩⟩
  ·rw [e,rQ,M,Int.toNat_natCast,O]
 by_cases h:j.length < G.length
 ·obtain ⟨r,N,M,S,ab,O⟩:=a1 j G U Z (by omega) a3
  have J:(r.2.2 ++ [IntKind.u32.wrap r.1]).length=r.2.2.length+1:=by simp
  rw [MT,dT (show (j.length:Int) < G.length by omega)]
  simp only [cond_true,jZ,Nat.mul_one,Nat.zero_add]
  rw [N,aO (show -9223372036854775808≤(G.length:Int)+1∧(G.length:Int)+1≤9223372036854775807 by omega),dT (show (4:Int)*((G.length:Int)+1)≤281474976710656 by omega),dT (show (G.length:Int)+1≤9223372036854775807 by omega),iH U,iH Z,M]
  rw [List.take_length,J,dT (show r.2.2.length≤r.2.2.length by omega),yI _ (by omega),dT (show r.2.2.length+1≤r.2.2.length+1 by omega),← J,lI S (by omega),lC,O,Nat.add_comm]
  rfl
 ·obtain ⟨r,N,M,S,ab,O⟩:=a1 G j Z U (by omega) a2
  have J:(r.2.2 ++ [IntKind.u32.wrap r.1]).length=r.2.2.length+1:=by simp
  rw [MT,dF (show ¬ (j.length:Int) < G.length by omega)]
  simp only [cond_false,jZ,Nat.mul_one,Nat.zero_add]
  rw [N,aO (show -9223372036854775808≤(j.length:Int)+1∧(j.length:Int)+1≤9223372036854775807 by omega),dT (show (4:Int)*((j.length:Int)+1)≤281474976710656 by omega),dT (show (j.length:Int)+1≤9223372036854775807 by omega),iH U,iH Z,M]
  rw [List.take_length,J,dT (show r.2.2.length≤r.2.2.length by omega),yI _ (by omega),dT (show r.2.2.length+1≤r.2.2.length+1 by omega),← J,lI S (by omega),lC,O]
  rfl
theorem Ka:Entry Tryz.prog 118 (y5 aa):=by
 refine im (E:=Aa aa sF jP) (u:=10) (d:=10) rZ (aB.none.nb Rt adu).ok (by kernel_rfl) (fun args r h=> ?_)
 unfold y5 at h
 split at h
 ·simp only [Option.some.injEq,Prod.mk.injEq,Bool.and_eq_true] at h
  obtain ⟨⟨Z,ab⟩,rfl⟩:=h
  obtain ⟨G,I,J,M⟩:=qQ Z
  obtain ⟨N,O,S,U⟩:=qQ ab
  refine ⟨_,_,Zw _ _ I O J S,fun B w a5 j=> ?_,fun B w y j=>by rw [M,U];exact j⟩
  obtain ⟨y,zs,rfl,a0,a1⟩:=j
  obtain ⟨a4,zs,rfl,a2,a3⟩:=a1
  exact ⟨y,_,rfl,kL G a0,a4,_,rfl,kL N a2,a3⟩
 ·cases h
end
end Go.Proofs.YtamcpiicmfielaaGreat.L
namespace Go.Proofs.YtamcpiicmfielaaGreat.L
open Go Go.V Go.RowKit Go.Proofs.YtamcpiicmfielaaGreat.Sp Go.Proofs.YtamcpiicmfielaaGreat.F Go.Proofs.YtamcpiicmfielaaGreatW.PrintWords
open Go.Proofs (Tryz.prog)
noncomputable section
def bS (x:Int):Bool:=decide (0≤x)&&decide (x < 4294967296)
def zp (args:List AV):Option (Bool×AV):=match args with
 | [.val (.int .u32 x), .val (.int .u32 y), .val (.int .u32 b)]=>some (bS x&&bS y&&decide (0≤b)&&decide (b≤1), .tup [.val (.int .u32 ((x+8589934592 - y - b) % 4294967296)), .val (.int .u32 (if x < y+b then 1 else 0))])
 | _=>none
theorem acW (x y b:Int):aD Tryz.prog ⟨aF,ar,aq⟩ 10 10 154 [.val (.int .u32 x), .val (.int .u32 y), .val (.int .u32 b)]=
  (some (.tup [(.val (.int .u32 (IntKind.u32.wrap (IntKind.u32.wrap (x - y) - b)))),(.val (.int .u32 ((bV BinOp.or IntKind.u32 (bV BinOp.and IntKind.u32 (IntKind.u32.wrap (↑(BitVec.ofInt (32:Nat) (4294967295:Int) ^^^ BitVec.ofInt (32:Nat) x).toNat:Int)) y) (bV BinOp.and IntKind.u32 (IntKind.u32.wrap (↑(BitVec.ofInt (32:Nat) (4294967295:Int) ^^^ BitVec.ofInt (32:Nat) (bV BinOp.xor IntKind.u32 x y)).toNat:Int)) (IntKind.u32.wrap (IntKind.u32.wrap (x - y) - b)))).fdiv (2147483648:Int))))])):=by kernel_rfl
theorem jF {x:Int} (h:bS x=true):∃ a:Nat,a < 4294967296∧x=a:=by
 unfold bS at h
 rw [Bool.and_eq_true,decide_eq_true_eq,decide_eq_true_eq] at h
 exact ⟨x.toNat,by omega,by omega⟩
theorem e9 {a:Nat} (h:a < 4294967296):bS (a:Int)=true:=by
 unfold bS
 rw [decide_eq_true (show (0:Int)≤a by omega),decide_eq_true (show (a:Int) < 4294967296 by omega)]
 rfl
theorem Km:Entry Tryz.prog 154 zp:=by
 refine aX (E:= ⟨aF,ar,aq⟩) (u:=10) (d:=10) (aH _) aK mixed (by kernel_rfl) (fun args r h=> ?_)
 unfold zp at h
 split at h
 ·rename_i x y b
  simp only [Option.some.injEq,Prod.mk.injEq,Bool.and_eq_true,decide_eq_true_eq] at h
  obtain ⟨⟨⟨⟨M,N⟩,U⟩,Z⟩,rfl⟩:=h
  obtain ⟨x,O,rfl⟩:=jF M
  obtain ⟨y,S,rfl⟩:=jF N
  obtain ⟨b,rfl⟩:∃ c:Nat,b=c:= ⟨b.toNat,by omega⟩
  have h:=acV x y b O S (by omega)
  unfold Bm.f at h
  simp only [Option.some.injEq,Prod.mk.injEq] at h
  obtain ⟨k1,j⟩:=h
  have G:IntKind.u32.wrap (IntKind.u32.wrap ((x:Int) - y) - b)=(((x:Int) - y) % 4294967296 - b) % 4294967296:=by rw [IntKind.wrap_u32,IntKind.wrap_u32]
  rw [acW,G]
  rw [k1] at j ⊢
  refine congrArg some ?_
  have I:(((x+8589934592 - y - b) % 4294967296:Nat):Int)=((x:Int)+8589934592 - y - b) % 4294967296:=by omega
  have J:(((if x < y+b then 1 else 0:Nat)):Int)=if (x:Int) < (y:Int)+b then 1 else 0:=by split <;> split <;> omega
  rw [J] at j
  rw [← I,← j]
  rw [Int.fdiv_eq_ediv_of_nonneg _ (by decide)]
  rfl
 ·cases h
def pX:Env:= ⟨an 154 zp aF,ar,aq⟩
theorem Hd:bb Tryz.prog pX.C:=(aH _).add Km
abbrev dZ:List Bool:= [false,true,false,true,true,true]
def fu (G:List Int) (zs:List Int) (c:Int) (j:List Int) (n:Int) (i:Int):List AV:=av 41 [(1, .lst false 129 G.length (ai G)),(5, .sl false 129 0 0 zs.length),(6, .val (.int .u32 c)),(13, .lst false 129 j.length (ai j)),(14, .val (.int .i64 n)),(15, .val (.int .i64 i))]
def eX (G:List Int) (zs:List Int) (c:Int) (j:List Int) (n:Int) (i:Int):Hp:= [.row (.ints .u32 zs) 129 .live]
theorem Ro:aJ Tryz.prog 119 dZ=some (.loop (lb 119 dZ)):=by kernel_rfl
theorem SX:aJ Tryz.prog 119 (false :: dZ)=some (lb 119 dZ):=by kernel_rfl
theorem Na (G:List Int) (zs:List Int) (c:Int) (j:List Int) (n:Int) (i:Int):
  (aN Tryz.prog pX 119 [1,5,6,13,14,15] (lb 119 dZ) (false :: dZ) (fu G zs c j n i) (eX G zs c j n i)=(bif decide (i < n) then (bif decide ((0:Int)≤i)&&decide (i < (↑j.length:Int)) then (bif decide (i < (↑G.length:Int)) then (bif decide ((0:Int)≤i)&&decide (i < (↑G.length:Int)) then (bif bS (j.getD i.toNat (0:Int))&&bS (G.getD i.toNat (0:Int))&&decide ((0:Int)≤c)&&decide (c≤(1:Int)) then (bif decide ((0:Int)≤i)&&decide (i < (↑zs.length:Int)) then (bif decide ((0:Nat)+i.toNat*(1:Nat) < zs.length) then (bif aj IntKind.i64 (i+(1:Int)) then some (.normal,av 41 [(1,(.lst false 129 G.length (ai G))),(5,(.sl false 129 0 0 zs.length)),(6,(.val (.int .u32 (if j.getD i.toNat (0:Int) < G.getD i.toNat (0:Int)+c then (1:Int) else (0:Int))))),(13,(.lst false 129 j.length (ai j))),(14,(.val (.int .i64 n))),(15,(.val (.int .i64 (i+(1:Int)))))], [(.row (.ints .u32 (zs.set ((0:Nat)+i.toNat*(1:Nat)) ((j.getD i.toNat (0:Int)+(8589934592:Int) - G.getD i.toNat (0:Int) - c) % (4294967296:Int)))) 129 .live)]) else none) else none) else none) else none) else none) else (bif bS (j.getD i.toNat (0:Int))&&true&&decide ((0:Int)≤c)&&decide (c≤(1:Int)) then (bif decide ((0:Int)≤i)&&decide (i < (↑zs.length:Int)) then (bif decide ((0:Nat)+i.toNat*(1:Nat) < zs.length) then (bif aj IntKind.i64 (i+(1:Int)) then some (.normal,av 41 [(1,(.lst false 129 G.length (ai G))),(5,(.sl false 129 0 0 zs.length)),(6,(.val (.int .u32 (if j.getD i.toNat (0:Int) < (0:Int)+c then (1:Int) else (0:Int))))),(13,(.lst false 129 j.length (ai j))),(14,(.val (.int .i64 n))),(15,(.val (.int .i64 (i+(1:Int)))))], [(.row (.ints .u32 (zs.set ((0:Nat)+i.toNat*(1:Nat)) ((j.getD i.toNat (0:Int)+(8589934592:Int) - (0:Int) - c) % (4294967296:Int)))) 129 .live)]) else none) else none) else none) else none)) else none) else some ((.exit 0),av 41 [(1,(.lst false 129 G.length (ai G))),(5,(.sl false 129 0 0 zs.length)),(6,(.val (.int .u32 c))),(13,(.lst false 129 j.length (ai j))),(14,(.val (.int .i64 n))),(15,(.val (.int .i64 i)))], [(.row (.ints .u32 zs) 129 .live)]))):=by kernel_rfl
theorem Od {G:List Int} {zs:List Int} {c:Int} {j:List Int} {n:Int} {i:Int} {e:Ex} {T:List AV} {H:Hp} (h:aN Tryz.prog pX 119 [1,5,6,13,14,15] (lb 119 dZ) (false :: dZ) (fu G zs c j n i) (eX G zs c j n i)=some (e,T,H)):V.Ends Tryz.prog false 0 0 (lb 119 dZ) (fu G zs c j n i) (eX G zs c j n i) e T H:=
 bw Hd aK mixed SX h
def uq (G:List Int) (zs:List Int) (c:Int) (j:List Int) (n:Int) (i:Int):Prop:=
 aI G∧aI j∧aI zs∧zs.length=j.length∧G.length≤j.length∧vL G≤vL j∧j.length≤17592186044416∧n=j.length∧c=0∧i=0
def Dq (G:List Int) (zs:List Int) (c:Int) (j:List Int) (n:Int) (i:Int) (r:Int×Int×List Int):Prop:=
 aI r.2.2∧r.2.2.length=j.length∧vL r.2.2=vL j - vL G
theorem YD (G j:List Int) (b4:aI G) (b3:aI j) (c3:G.length≤j.length) (c2:vL G≤vL j) (c1:j.length≤17592186044416) (d:Nat):∀ (i c:Nat) (out:List Int),i+d=j.length→aI out→out.length=j.length→c≤1→
  vL (out.take i)+vL (G.take i)=vL (j.take i)+4294967296 ^ i*c→
  ∃ r:Int×Int×List Int,aw Tryz.prog (lb 119 dZ) (fu G out c j j.length i) (eX G out c j j.length i) (.exit 0) (fu G r.2.2 r.1 j j.length r.2.1) (eX G r.2.2 r.1 j j.length r.2.1)∧
   aI r.2.2∧r.2.2.length=j.length∧vL r.2.2=vL j - vL G:=by
 induction d with
 | zero=>
  intro i c out b1 S O a6 U
  have b2:i=j.length:=by omega
  subst b2
  rw [List.take_of_length_le (by omega),List.take_of_length_le (by omega),List.take_of_length_le (by omega)] at U
  have M:=dD S
  rw [O] at M
  have a7:c=0:=by
   rcases (show c=0∨c=1 by omega) with h | h
   ·exact h
   ·rw [h] at U;omega
  rw [a7] at U
  refine ⟨((c:Int),(j.length:Int),out), .last (Od ?_) (by intro h;cases h),S,O,by show vL out=_;omega⟩
  rw [Na,dF (show ¬ ((j.length:Int) < j.length) by omega)]
  rfl
 | succ d ct=>
  intro i c out b1 S O a6 U
  have ab:i < j.length:=by omega
  obtain ⟨a,a5,bD,b6⟩:=cu b3 i ab
  have a1:=kD j i ab
  rw [bD,Int.toNat_natCast] at a1
  have c0:∀ b:Nat,b < 4294967296→vL (G.take (i+1))=vL (G.take i)+4294967296 ^ i*b→
    vL ((out.set i (((a+8589934592 - b - c) % 4294967296:Nat):Int)).take (i+1))+vL (G.take (i+1))=vL (j.take (i+1))+4294967296 ^ (i+1)*(if a < b+c then 1 else 0):=by
   intro b J b5
   rw [zz _ _ (by omega),rQ,List.length_take,Nat.min_eq_left (by omega),Int.toNat_natCast,b5,a1,Nat.pow_succ]
   have a4:(a+8589934592 - b - c) % 4294967296+b+c=a+4294967296*(if a < b+c then 1 else 0):=by split <;> omega
   generalize (a+8589934592 - b - c) % 4294967296=D at*
   generalize (if a < b+c then 1 else 0)=q at*
   have N:=congrArg (4294967296 ^ i* ·) a4
   simp only [Nat.mul_add] at N
   rw [← Nat.mul_assoc] at N
   omega
  have bx:∀ b:Nat,((if a < b+c then 1 else 0:Nat))≤1:=fun b=>by split <;> omega
  have Z:=Na G out c j j.length i
  have go:∀ b:Nat,b < 4294967296→vL (G.take (i+1))=vL (G.take i)+4294967296 ^ i*b→
    aN Tryz.prog pX 119 [1,5,6,13,14,15] (lb 119 dZ) (false :: dZ) (fu G out c j j.length i) (eX G out c j j.length i)=some (.normal,av 41 [(1, .lst false 129 G.length (ai G)),(5, .sl false 129 0 0 out.length),(6, .val (.int .u32 (if (a:Int) < (b:Int)+c then 1 else 0))),(13, .lst false 129 j.length (ai j)),(14, .val (.int .i64 j.length)),(15, .val (.int .i64 ((i:Int)+1)))], [.row (.ints .u32 (out.set (0+i*1) (((a:Int)+8589934592 - b - c) % 4294967296))) 129 .live])→
    ∃ r:Int×Int×List Int,aw Tryz.prog (lb 119 dZ) (fu G out c j j.length i) (eX G out c j j.length i) (.exit 0) (fu G r.2.2 r.1 j j.length r.2.1) (eX G r.2.2 r.1 j j.length r.2.1)∧
   aI r.2.2∧r.2.2.length=j.length∧vL r.2.2=vL j - vL G:=by
   intro b J I b8
   obtain ⟨r,M,N⟩:=ct (i+1) _ (out.set i (((a+8589934592 - b - c) % 4294967296:Nat):Int)) (by omega) (fg S _ _ (ly _).1 (ly _).2) (by rw [List.length_set];exact O) (bx b) (c0 b J I)
   have a2:(((a+8589934592 - b - c) % 4294967296:Nat):Int)=((a:Int)+8589934592 - b - c) % 4294967296:=by omega
   have a3:(((if a < b+c then 1 else 0:Nat)):Int)=if (a:Int) < (b:Int)+c then 1 else 0:=by split <;> split <;> omega
   rw [a2,a3] at M
   refine ⟨r, .more (Od ?_) M,N⟩
   rw [b8,Nat.zero_add,Nat.mul_one]
   unfold fu eX
   rw [List.length_set]
   rfl
  have ch:aj .i64 ((i:Int)+1)=true:=aO (by omega)
  rw [Int.toNat_natCast,b6,dT (show (i:Int) < j.length by omega),dT (show (0:Int)≤(i:Int) by omega),ch,dT (show (i:Int) < (out.length:Int) by omega),dT (show 0+i*1 < out.length by omega),e9 a5,dT (show (0:Int)≤(c:Int) by omega),dT (show (c:Int)≤1 by omega)] at Z
  by_cases a0:i < G.length
  ·obtain ⟨b,J,b0,b7⟩:=cu b4 i a0
   have I:=kD G i a0
   rw [b0,Int.toNat_natCast] at I
   refine go b J I ?_
   rw [Z,dT (show (i:Int) < G.length by omega),b7,e9 J]
   rfl
  ·have I:vL (G.take (i+1))=vL (G.take i)+4294967296 ^ i*0:=by rw [List.take_of_length_le (by omega),List.take_of_length_le (by omega)];simp
   refine go 0 (by omega) I ?_
   rw [Z,dF (show ¬ (i:Int) < G.length by omega)]
   rfl
theorem XV (G:List Int) (zs:List Int) (c:Int) (j:List Int) (n:Int) (i:Int) (h:uq G zs c j n i):∃ r:Int×Int×List Int,aw Tryz.prog (lb 119 dZ) (fu G zs c j n i) (eX G zs c j n i) (.exit 0) (fu G r.2.2 r.1 j n r.2.1) (eX G r.2.2 r.1 j n r.2.1)∧Dq G zs c j n i r:=by
 obtain ⟨I,J,M,N,O,S,U,rfl,rfl,rfl⟩:=h
 exact YD G j I J O S U j.length 0 0 zs (by omega) M N (by omega) (by simp [cp])
def Ga (O:List Int→List Int→Int→List Int→Int→Int→Bool) (M:List Int→List Int→Int→List Int→Int→Int→Int×Int×List Int) (T:List AV) (H:Hp):Option (Bool×Ex×List AV×Hp):=
 match al T 1,al T 5,al T 6,al T 13,al T 14,al T 15,H with
 | .lst false 129 J G, .sl false 129 0 0 N, .val (.int .u32 c), .lst false 129 I j, .val (.int .i64 n), .val (.int .i64 i), [.row (.ints .u32 zs) 129 .live]=>bif T.length==41 then some (okB J G&&okB I j&&decide (N=zs.length)&&O (rowOf J G) zs c (rowOf I j) n i, .exit 0,fu (rowOf J G) ((M (rowOf J G) zs c (rowOf I j) n i).2.2) ((M (rowOf J G) zs c (rowOf I j) n i).1) (rowOf I j) n ((M (rowOf J G) zs c (rowOf I j) n i).2.1),eX (rowOf J G) ((M (rowOf J G) zs c (rowOf I j) n i).2.2) ((M (rowOf J G) zs c (rowOf I j) n i).1) (rowOf I j) n ((M (rowOf J G) zs c (rowOf I j) n i).2.1)) else none
 | _,_,_,_,_,_,_=>none
def kR (G:List Int) (zs:List Int) (c:Int) (j:List Int) (n:Int) (i:Int):Int×Int×List Int:=Classical.epsilon fun ρ=>aw Tryz.prog (lb 119 dZ) (fu G zs c j n i) (eX G zs c j n i) (.exit 0) (fu G (ρ.2.2) (ρ.1) j n (ρ.2.1)) (eX G (ρ.2.2) (ρ.1) j n (ρ.2.1))∧Dq G zs c j n i ρ
theorem Mo (G:List Int) (zs:List Int) (c:Int) (j:List Int) (n:Int) (i:Int) (h:uq G zs c j n i):aw Tryz.prog (lb 119 dZ) (fu G zs c j n i) (eX G zs c j n i) (.exit 0) (fu G ((kR G zs c j n i).2.2) ((kR G zs c j n i).1) j n ((kR G zs c j n i).2.1)) (eX G ((kR G zs c j n i).2.2) ((kR G zs c j n i).1) j n ((kR G zs c j n i).2.1))∧Dq G zs c j n i (kR G zs c j n i):=Classical.epsilon_spec (XV G zs c j n i h)
def xc (G:List Int) (zs:List Int) (c:Int) (j:List Int) (n:Int) (i:Int):Bool:= @decide (uq G zs c j n i) (Classical.propDecidable _)
theorem TV (G:List Int) (zs:List Int) (c:Int) (j:List Int) (n:Int) (i:Int) (h:uq G zs c j n i):xc G zs c j n i=true:= @decide_eq_true _ (Classical.propDecidable _) h
theorem adq (T:List AV) (H:Hp) (e:Ex) (I:List AV) (G:Hp) (h:Ga xc kR T H=some (true,e,I,G)):V.Ends Tryz.prog false 0 0 (.loop (lb 119 dZ)) T H e I G:=by
 unfold Ga at h
 split at h
 ·rename_i bx O bD c a7 N n i zs S a0 a1 U Z ab
  rw [Bool.cond_eq_ite] at h
  split at h
  ·rename_i J
   rw [beq_iff_eq] at J
   simp only [Option.some.injEq,Prod.mk.injEq,Bool.and_eq_true,decide_eq_true_eq] at h
   obtain ⟨⟨⟨⟨k1,a3⟩,a4⟩,a5⟩,rfl,rfl,rfl⟩:=h
   have a6:= @of_decide_eq_true _ (Classical.propDecidable _) a5
   refine Ends.pre (Mo (rowOf bx O) zs c (rowOf a7 N) n i a6).1.ends (fun α B w D b0 a2=>bm J (fun p M y j=> ?_) a2)
   simp only [List.mem_cons,List.not_mem_nil,or_false] at M
   rcases M with rfl | rfl | rfl | rfl | rfl | rfl
   ·rw [S] at j;rw [cc];exact cn bZ k1 j
   ·rw [a0] at j;rw [← a4];exact j
   ·rw [a1] at j;exact j
   ·rw [U] at j;rw [cc];exact cn bZ a3 j
   ·rw [Z] at j;exact j
   ·rw [ab] at j;exact j
  ·cases h
 ·cases h
def Hl (j:Sg) (G:List Int→List Int→Int→List Int→Int→Int→Bool) (I:List Int→List Int→Int→List Int→Int→Int→Int×Int×List Int):Env:= ⟨CT j,ar,mh 119 dZ [1,5,6,13,14,15] (Ga G I) aq⟩
theorem YC (J:Sg) (N:List Int→List Int→Int→List Int→Int→Int→Bool) (O:List Int→List Int→Int→List Int→Int→Int→Int×Int×List Int) (j I:List Int):letI M:=(List.replicate (↑j.length:Int).toNat (0:Int));letI G:=(O (rowOf I.length (ai I)) M (0:Int) (rowOf j.length (ai j)) (↑j.length:Int) (0:Int));
  (aD Tryz.prog (Hl J N O) 10 10 119 [.lst false 129 j.length (ai j), .lst false 129 I.length (ai I)]=(bif decide ((↑j.length:Int)≤(↑j.length:Int))&&decide ((4:Int)*(↑j.length:Int)≤(281474976710656:Int))&&decide ((↑j.length:Int)≤(9223372036854775807:Int)) then (bif okB I.length (ai I)&&okB j.length (ai j)&&decide ((↑j.length:Int).toNat=M.length)&&N (rowOf I.length (ai I)) M (0:Int) (rowOf j.length (ai j)) (↑j.length:Int) (0:Int) then (bif decide ((0:Nat)+G.snd.snd.length*(1:Nat)≤G.snd.snd.length) then (bif J.bL G.snd.snd.length (ai G.snd.snd) then some (.lst false 129 (J.len (J.num G.snd.snd.length (ai G.snd.snd))) (J.row (J.num G.snd.snd.length (ai G.snd.snd)))) else none) else none) else none) else none)):=by kernel_rfl
def FA (j:Sg) (args:List AV):Option (Bool×AV):=match args with | [.lst _ 129 m f, .lst _ 129 n g]=>some (j.can m f&&j.can n g&&decide (j.num n g≤j.num m f),j.fF (j.num m f - j.num n g)) | _=>none
theorem Vw:Entry Tryz.prog 119 (FA aa):=by
 refine im (E:=Hl aa xc kR) (u:=10) (d:=10) rZ (aB.none.nb Ro adq).ok (by kernel_rfl) (fun args r h=> ?_)
 unfold FA at h
 split at h
 ·rename_i fl m f b5 n g
  simp only [Option.some.injEq,Prod.mk.injEq,Bool.and_eq_true,decide_eq_true_eq] at h
  obtain ⟨⟨⟨a4,a5⟩,O⟩,rfl⟩:=h
  obtain ⟨U,I,Z,J,ab⟩:=so a4
  obtain ⟨a0,M,b3,N,a1⟩:=so a5
  have a7:(rowOf n g).length≤(rowOf m f).length:=by
   rw [a1,ab];exact kJ (Nat.lt_of_le_of_lt O (lz (Nat.le_refl _)))
  have a6:vL (rowOf n g)≤vL (rowOf m f):=by rw [← J,← N];exact O
  have S:uq (rowOf n g) (List.replicate (rowOf m f).length 0) 0 (rowOf m f) (rowOf m f).length 0:= ⟨M,I,kM _,by simp,a7,a6,Z,rfl,rfl,rfl⟩
  obtain ⟨_,a2,b4,a3⟩:=Mo _ _ _ _ _ _ S
  have j:=YC aa xc kR (rowOf m f) (rowOf n g)
  simp only [jZ,Nat.mul_one,Nat.zero_add,Int.toNat_natCast,List.length_replicate,eq_self,decide_true] at j
  rw [TV _ _ _ _ _ _ S] at j
  generalize kR (rowOf n g) (List.replicate (rowOf m f).length 0) 0 (rowOf m f) (rowOf m f).length 0=r at*
  rw [iH I,iH M,dT (show ((rowOf m f).length:Int)≤((rowOf m f).length:Int) by omega),dT (show (4:Int)*((rowOf m f).length:Int)≤281474976710656 by omega),dT (show ((rowOf m f).length:Int)≤9223372036854775807 by omega),dT (show r.2.2.length≤r.2.2.length by omega),lI a2 (by omega),lC,a3] at j
  refine ⟨_,_,j,fun B w b6 G=> ?_,fun B w y G=>by rw [J,N];exact G⟩
  obtain ⟨y,zs,rfl,bx,bD⟩:=G
  obtain ⟨b2,zs,rfl,b0,b1⟩:=bD
  exact ⟨y,_,rfl,kL U bx,b2,_,rfl,kL a0 b0,b1⟩
 ·cases h
end
end Go.Proofs.YtamcpiicmfielaaGreat.L
namespace Go.Proofs.YtamcpiicmfielaaGreat.L
open Go Go.V Go.RowKit Go.Proofs.YtamcpiicmfielaaGreat.Sp Go.Proofs.YtamcpiicmfielaaGreat.F Go.Proofs.YtamcpiicmfielaaGreatW.PrintWords
open Go.Proofs (Tryz.prog)
noncomputable section
abbrev gi:List Bool:= [false,true,false,true,true,false,false,true,true,false,false,true,false,true,true]
def iZ (I:List Int) (zs:List Int) (J:Int) (x:Int) (c:Int) (G:List Int) (n:Int) (k:Int) (j:List Int) (m:Int) (i:Int):List AV:=av 67 [(1, .lst false 129 I.length (ai I)),(5, .sl false 129 0 0 zs.length),(6, .val (.int .i64 J)),(7, .val (.int .u32 x)),(8, .val (.int .u64 c)),(17, .lst false 129 G.length (ai G)),(18, .val (.int .i64 n)),(19, .val (.int .i64 k)),(24, .lst false 129 j.length (ai j)),(25, .val (.int .i64 m)),(26, .val (.int .i64 i))]
def iD (J:List Int) (zs:List Int) (j:Int) (x:Int) (c:Int) (I:List Int) (n:Int) (k:Int) (G:List Int) (m:Int) (i:Int):Hp:= [.row (.ints .u32 zs) 129 .live]
theorem RR:aJ Tryz.prog 109 gi=some (.loop (lb 109 gi)):=by kernel_rfl
theorem Tw:aJ Tryz.prog 109 (false :: gi)=some (lb 109 gi):=by kernel_rfl
theorem Nv (J:List Int) (zs:List Int) (j:Int) (x:Int) (c:Int) (I:List Int) (n:Int) (k:Int) (G:List Int) (m:Int) (i:Int):letI M:=(IntKind.u64.wrap (c+IntKind.u64.wrap (IntKind.u64.wrap (x*G.getD i.toNat (0:Int))+zs.getD ((0:Nat)+(j+i).toNat*(1:Nat)) (0:Int))));
  (aN Tryz.prog bj 109 [1,5,6,7,8,17,18,19,24,25,26] (lb 109 gi) (false :: gi) (iZ J zs j x c I n k G m i) (iD J zs j x c I n k G m i)=(bif decide (i < m) then (bif decide ((0:Int)≤i)&&decide (i < (↑G.length:Int)) then (bif aj IntKind.u64 x then (bif aj IntKind.u64 (G.getD i.toNat (0:Int)) then (bif aj IntKind.i64 (j+i) then (bif decide ((0:Int)≤j+i)&&decide (j+i < (↑zs.length:Int)) then (bif decide ((0:Nat)+(j+i).toNat*(1:Nat) < zs.length) then (bif aj IntKind.u64 (zs.getD ((0:Nat)+(j+i).toNat*(1:Nat)) (0:Int)) then (bif aj IntKind.i64 (j+i) then (bif decide ((0:Int)≤j+i)&&decide (j+i < (↑zs.length:Int)) then (bif decide ((0:Nat)+(j+i).toNat*(1:Nat) < zs.length) then (bif aj IntKind.i64 (i+(1:Int)) then some (.normal,av 67 [(1,(.lst false 129 J.length (ai J))),(5,(.sl false 129 0 0 zs.length)),(6,(.val (.int .i64 j))),(7,(.val (.int .u32 x))),(8,(.val (.int .u64 (M.fdiv (4294967296:Int))))),(17,(.lst false 129 I.length (ai I))),(18,(.val (.int .i64 n))),(19,(.val (.int .i64 k))),(24,(.lst false 129 G.length (ai G))),(25,(.val (.int .i64 m))),(26,(.val (.int .i64 (i+(1:Int)))))], [(.row (.ints .u32 (zs.set ((0:Nat)+(j+i).toNat*(1:Nat)) (IntKind.u32.wrap M))) 129 .live)]) else none) else none) else none) else none) else none) else none) else none) else none) else none) else none) else none) else some ((.exit 2),av 67 [(1,(.lst false 129 J.length (ai J))),(5,(.sl false 129 0 0 zs.length)),(6,(.val (.int .i64 j))),(7,(.val (.int .u32 x))),(8,(.val (.int .u64 c))),(17,(.lst false 129 I.length (ai I))),(18,(.val (.int .i64 n))),(19,(.val (.int .i64 k))),(24,(.lst false 129 G.length (ai G))),(25,(.val (.int .i64 m))),(26,(.val (.int .i64 i)))], [(.row (.ints .u32 zs) 129 .live)]))):=by kernel_rfl
theorem OB {J:List Int} {zs:List Int} {j:Int} {x:Int} {c:Int} {I:List Int} {n:Int} {k:Int} {G:List Int} {m:Int} {i:Int} {e:Ex} {T:List AV} {H:Hp} (h:aN Tryz.prog bj 109 [1,5,6,7,8,17,18,19,24,25,26] (lb 109 gi) (false :: gi) (iZ J zs j x c I n k G m i) (iD J zs j x c I n k G m i)=some (e,T,H)):V.Ends Tryz.prog false 0 0 (lb 109 gi) (iZ J zs j x c I n k G m i) (iD J zs j x c I n k G m i) e T H:=
 bw (aH _) aK mixed Tw h
def uS (J zs:List Int) (G x c:Int) (I:List Int) (n k:Int) (j:List Int) (m i:Int):Prop:=
 aI J∧aI zs∧aI I∧aI j∧zs.length≤17592186044416∧m=j.length∧i=0∧c=0∧bS x=true∧∃ a:Nat,G=a∧a+j.length < zs.length
def DL (J zs:List Int) (j x c:Int) (I:List Int) (n k:Int) (G:List Int) (m i:Int) (r:Int×Int×List Int):Prop:=
 aI r.2.2∧r.2.2.length=zs.length∧r.2.2.getD (j.toNat+G.length) 0=zs.getD (j.toNat+G.length) 0∧∃ q:Nat,q < 4294967296∧r.1=q∧vL r.2.2+4294967296 ^ (j.toNat+G.length)*q=vL zs+4294967296 ^ j.toNat*(x.toNat*vL G)
theorem ac5 (J I G:List Int) (n k:Int) (b7:aI G) (j a L V z:Nat) (c0:a < 4294967296) (ct:L≤17592186044416) (c3:j+G.length < L) (d:Nat):∀ (i c:Nat) (out:List Int),i+d=G.length→aI out→out.length=L→c < 4294967296→out.getD (j+G.length) 0=z→
  dE (vL out+4294967296 ^ (j+i)*c=V+4294967296 ^ j*(a*vL (G.take i)))→
  ∃ r:Int×Int×List Int,aw Tryz.prog (lb 109 gi) (iZ J out j a c I n k G G.length i) (iD J out j a c I n k G G.length i) (.exit 2) (iZ J r.2.2 j a r.1 I n k G G.length r.2.1) (iD J r.2.2 j a r.1 I n k G G.length r.2.1)∧
   aI r.2.2∧r.2.2.length=L∧r.2.2.getD (j+G.length) 0=z∧∃ q:Nat,q < 4294967296∧r.1=q∧vL r.2.2+4294967296 ^ (j+G.length)*q=V+4294967296 ^ j*(a*vL G):=by
 induction d with
 | zero=>
  intro i c out b2 N U a2 Z a5
  have b3:i=G.length:=by omega
  subst b3
  refine ⟨((c:Int),(G.length:Int),out), .last (OB ?_) (by intro h;cases h),N,U,Z,c,a2,rfl, ?_⟩
  ·rw [Nv,dF (show ¬ ((G.length:Int) < G.length) by omega)]
   rfl
  ·have:=a5.out
   rw [List.take_length] at this
   exact this
 | succ d a6=>
  intro i c out b2 N U a2 Z ab
  have a3:i < G.length:=by omega
  obtain ⟨b,c2,b0,b4⟩:=cu b7 i a3
  have O:=dE.mk (kD G i a3)
  rw [b0,Int.toNat_natCast] at O
  have S:j+i < out.length:=by omega
  obtain ⟨o,c4,b1,b5⟩:=cu N (j+i) S
  have c1:a*b≤4294967295*4294967295:=Nat.mul_le_mul (by omega) (by omega)
  have M:=dE.mk (n7 out (j+i) S (((c+(a*b+o)) % 4294967296:Nat):Int))
  rw [b1] at M
  simp only [Int.toNat_natCast] at M
  obtain ⟨r,a0,a1⟩:=a6 (i+1) ((c+(a*b+o)) / 4294967296) (out.set (j+i) (((c+(a*b+o)) % 4294967296:Nat):Int)) (by omega) (fg N _ _ (ly _).1 (ly _).2) (by rw [List.length_set];exact U) (by omega) (by
   rw [List.getD_eq_getElem?_getD,List.getElem?_set_ne (by omega),← List.getD_eq_getElem?_getD];exact Z) (by
   have a5:=ab.out
   have b6:=O.out
   have c5:=M.out
   constructor
   rw [b6,show j+(i+1)=(j+i)+1 from rfl,Nat.pow_succ]
   have bx:4294967296 ^ (j+i)*((c+(a*b+o)) % 4294967296)+4294967296 ^ (j+i)*4294967296*((c+(a*b+o)) / 4294967296)=4294967296 ^ (j+i)*(c+(a*b+o)):=by
    rw [Nat.mul_assoc,← Nat.mul_add,Nat.mod_add_div]
   have bD:4294967296 ^ j*(a*(vL (G.take i)+4294967296 ^ i*b))=4294967296 ^ j*(a*vL (G.take i))+4294967296 ^ (j+i)*(a*b):=by
    rw [Nat.pow_add];grind
   rw [bD]
   simp only [Nat.mul_add] at bx
   omega)
  refine ⟨r, .more (OB ?_) a0,a1⟩
  clear a0 a1 ab O M a6
  have a4:=Nv J out j a c I n k G G.length i
  have a7:(j:Int)+(i:Int)=((j+i:Nat):Int):=by omega
  have b8:aj .i64 ((i:Int)+1)=true:=aO (by omega)
  have ch:aj .i64 ((j+i:Nat):Int)=true:=aO (by omega)
  rw [a7,Int.toNat_natCast,Int.toNat_natCast,b4,Nat.zero_add,Nat.mul_one,b5,b8,ch,dT (show (i:Int) < G.length by omega),dT (show (0:Int)≤(i:Int) by omega),dT (show (0:Int)≤((j+i:Nat):Int) by omega),dT (show ((j+i:Nat):Int) < (out.length:Int) by omega),dT S,
   cT (show 0≤(a:Int)∧(a:Int)≤18446744073709551615 by omega),cT (show 0≤(b:Int)∧(b:Int)≤18446744073709551615 by omega),cT (show 0≤(o:Int)∧(o:Int)≤18446744073709551615 by omega),
   ← Int.natCast_mul,rN,Nat.mod_eq_of_lt (show a*b < 18446744073709551616 by omega),← Int.natCast_add,rN,Nat.mod_eq_of_lt (show a*b+o < 18446744073709551616 by omega),← Int.natCast_add,rN,Nat.mod_eq_of_lt (show c+(a*b+o) < 18446744073709551616 by omega),dm,ji] at a4
  rw [a4]
  unfold iZ iD
  rw [List.length_set]
  rfl
theorem Yn (J zs:List Int) (j x c:Int) (I:List Int) (n k:Int) (G:List Int) (m i:Int) (h:uS J zs j x c I n k G m i):∃ r:Int×Int×List Int,aw Tryz.prog (lb 109 gi) (iZ J zs j x c I n k G m i) (iD J zs j x c I n k G m i) (.exit 2) (iZ J r.2.2 j x r.1 I n k G m r.2.1) (iD J r.2.2 j x r.1 I n k G m r.2.1)∧DL J zs j x c I n k G m i r:=by
 obtain ⟨a0,M,a1,S,U,rfl,rfl,rfl,Z,j,rfl,N⟩:=h
 obtain ⟨a,ab,rfl⟩:=jF Z
 obtain ⟨z,a2,_,O⟩:=cu M (j+G.length) N
 have:=ac5 J I G n k S j a zs.length (vL zs) z ab U N G.length 0 0 zs (by omega) M rfl (by omega) O ⟨by simp [cp]⟩
 rw [← O] at this
 exact this
def GF (Z:List Int→List Int→Int→Int→Int→List Int→Int→Int→List Int→Int→Int→Bool) (S:List Int→List Int→Int→Int→Int→List Int→Int→Int→List Int→Int→Int→Int×Int×List Int) (T:List AV) (H:Hp):Option (Bool×Ex×List AV×Hp):=
 match al T 1,al T 5,al T 6,al T 7,al T 8,al T 17,al T 18,al T 19,al T 24,al T 25,al T 26,H with
 | .lst false 129 N I, .sl false 129 0 0 U, .val (.int .i64 O), .val (.int .u32 x), .val (.int .u64 c), .lst false 129 M G, .val (.int .i64 n), .val (.int .i64 k), .lst false 129 J j, .val (.int .i64 m), .val (.int .i64 i), [.row (.ints .u32 zs) 129 .live]=>bif T.length==67 then some (okB N I&&okB M G&&okB J j&&decide (U=zs.length)&&Z (rowOf N I) zs O x c (rowOf M G) n k (rowOf J j) m i, .exit 2,iZ (rowOf N I) ((S (rowOf N I) zs O x c (rowOf M G) n k (rowOf J j) m i).2.2) O x ((S (rowOf N I) zs O x c (rowOf M G) n k (rowOf J j) m i).1) (rowOf M G) n k (rowOf J j) m ((S (rowOf N I) zs O x c (rowOf M G) n k (rowOf J j) m i).2.1),iD (rowOf N I) ((S (rowOf N I) zs O x c (rowOf M G) n k (rowOf J j) m i).2.2) O x ((S (rowOf N I) zs O x c (rowOf M G) n k (rowOf J j) m i).1) (rowOf M G) n k (rowOf J j) m ((S (rowOf N I) zs O x c (rowOf M G) n k (rowOf J j) m i).2.1)) else none
 | _,_,_,_,_,_,_,_,_,_,_,_=>none
abbrev AK:Type:=List Int→List Int→Int→Int→Int→List Int→Int→Int→List Int→Int→Int→Bool
abbrev Ar:Type:=List Int→List Int→Int→Int→Int→List Int→Int→Int→List Int→Int→Int→Int×Int×List Int
def Ja (j:AK) (G:Ar) (L:aE):aE:=bp 0 109 gi [1,5,6,7,8,17,18,19,24,25,26] (GF j G) L
def jW (J:List Int) (zs:List Int) (j:Int) (x:Int) (c:Int) (I:List Int) (n:Int) (k:Int) (G:List Int) (m:Int) (i:Int):Int×Int×List Int:=Classical.epsilon fun ρ=>aw Tryz.prog (lb 109 gi) (iZ J zs j x c I n k G m i) (iD J zs j x c I n k G m i) (.exit 2) (iZ J (ρ.2.2) j x (ρ.1) I n k G m (ρ.2.1)) (iD J (ρ.2.2) j x (ρ.1) I n k G m (ρ.2.1))∧DL J zs j x c I n k G m i ρ
theorem MM (J:List Int) (zs:List Int) (j:Int) (x:Int) (c:Int) (I:List Int) (n:Int) (k:Int) (G:List Int) (m:Int) (i:Int) (h:uS J zs j x c I n k G m i):aw Tryz.prog (lb 109 gi) (iZ J zs j x c I n k G m i) (iD J zs j x c I n k G m i) (.exit 2) (iZ J ((jW J zs j x c I n k G m i).2.2) j x ((jW J zs j x c I n k G m i).1) I n k G m ((jW J zs j x c I n k G m i).2.1)) (iD J ((jW J zs j x c I n k G m i).2.2) j x ((jW J zs j x c I n k G m i).1) I n k G m ((jW J zs j x c I n k G m i).2.1))∧DL J zs j x c I n k G m i (jW J zs j x c I n k G m i):=Classical.epsilon_spec (Yn J zs j x c I n k G m i h)
def sU (J:List Int) (zs:List Int) (j:Int) (x:Int) (c:Int) (I:List Int) (n:Int) (k:Int) (G:List Int) (m:Int) (i:Int):Bool:= @decide (uS J zs j x c I n k G m i) (Classical.propDecidable _)
theorem Us (J:List Int) (zs:List Int) (j:Int) (x:Int) (c:Int) (I:List Int) (n:Int) (k:Int) (G:List Int) (m:Int) (i:Int) (h:uS J zs j x c I n k G m i):sU J zs j x c I n k G m i=true:= @decide_eq_true _ (Classical.propDecidable _) h
theorem adS (T:List AV) (H:Hp) (e:Ex) (I:List AV) (G:Hp) (h:GF sU jW T H=some (true,e,I,G)):V.Ends Tryz.prog false 0 0 (.loop (lb 109 gi)) T H e I G:=by
 unfold GF at h
 split at h
 ·rename_i b7 S b8 bD x c b6 O n k b5 N m i zs U a4 a5 a6 a7 Z ab a0 a1 a2 a3
  rw [Bool.cond_eq_ite] at h
  split at h
  ·rename_i J
   rw [beq_iff_eq] at J
   simp only [Option.some.injEq,Prod.mk.injEq,Bool.and_eq_true,decide_eq_true_eq] at h
   obtain ⟨⟨⟨⟨⟨k1,b0⟩,b1⟩,b2⟩,b3⟩,rfl,rfl,rfl⟩:=h
   have b4:= @of_decide_eq_true _ (Classical.propDecidable _) b3
   refine Ends.pre (MM (rowOf b7 S) zs bD x c (rowOf b6 O) n k (rowOf b5 N) m i b4).1.ends (fun α B w D ch bx=>bm J (fun p M y j=> ?_) bx)
   simp only [List.mem_cons,List.not_mem_nil,or_false] at M
   rcases M with rfl | rfl | rfl | rfl | rfl | rfl | rfl | rfl | rfl | rfl | rfl
   ·rw [U] at j;rw [cc];exact cn bZ k1 j
   ·rw [a4] at j;rw [← b2];exact j
   ·rw [a5] at j;exact j
   ·rw [a6] at j;exact j
   ·rw [a7] at j;exact j
   ·rw [Z] at j;rw [cc];exact cn bZ b0 j
   ·rw [ab] at j;exact j
   ·rw [a0] at j;exact j
   ·rw [a1] at j;rw [cc];exact cn bZ b1 j
   ·rw [a2] at j;exact j
   ·rw [a3] at j;exact j
  ·cases h
 ·cases h
theorem QH {L:aE} (h:aB Tryz.prog L):aB Tryz.prog (Ja sU jW L):=h.br RR adS
def HD (j:AK) (G:Ar):Env:= ⟨aF,ar,Ja j G aq⟩
abbrev gj:List Bool:= [false,true,false,true,true]
def ja (G:List Int) (zs:List Int) (j:List Int) (n:Int) (i:Int):List AV:=av 67 [(1, .lst false 129 G.length (ai G)),(5, .sl false 129 0 0 zs.length),(17, .lst false 129 j.length (ai j)),(18, .val (.int .i64 n)),(19, .val (.int .i64 i))]
def iE (G:List Int) (zs:List Int) (j:List Int) (n:Int) (i:Int):Hp:= [.row (.ints .u32 zs) 129 .live]
theorem RS:aJ Tryz.prog 109 gj=some (.loop (lb 109 gj)):=by kernel_rfl
theorem Tx:aJ Tryz.prog 109 (false :: gj)=some (lb 109 gj):=by kernel_rfl
theorem Nw (M:AK) (N:Ar) (G:List Int) (zs:List Int) (j:List Int) (n:Int) (i:Int):letI I:=(rowOf G.length (ai G));letI J:=(N I zs i (j.getD i.toNat (0:Int)) (0:Int) (rowOf j.length (ai j)) n i I (↑G.length:Int) (0:Int));
  (aN Tryz.prog (HD M N) 109 [1,5,17,18,19] (lb 109 gj) (false :: gj) (ja G zs j n i) (iE G zs j n i)=(bif decide (i < n) then (bif decide ((0:Int)≤i)&&decide (i < (↑j.length:Int)) then (bif okB G.length (ai G)&&okB j.length (ai j)&&okB G.length (ai G)&&decide (zs.length=zs.length)&&M I zs i (j.getD i.toNat (0:Int)) (0:Int) (rowOf j.length (ai j)) n i I (↑G.length:Int) (0:Int) then (bif aj IntKind.i64 (i+(↑I.length:Int)) then (bif decide ((0:Int)≤i+(↑I.length:Int))&&decide (i+(↑I.length:Int) < (↑J.snd.snd.length:Int)) then (bif decide ((0:Nat)+(i+(↑I.length:Int)).toNat*(1:Nat) < J.snd.snd.length) then (bif aj IntKind.i64 (i+(1:Int)) then some (.normal,av 67 [(1,(.lst false 129 (I.length) (ai I))),(5,(.sl false 129 0 0 (J.snd.snd.length))),(17,(.lst false 129 ((rowOf j.length (ai j)).length) (ai (rowOf j.length (ai j))))),(18,(.val (.int .i64 n))),(19,(.val (.int .i64 (i+(1:Int)))))], [(.row (.ints .u32 (J.snd.snd.set ((0:Nat)+(i+(↑I.length:Int)).toNat*(1:Nat)) (IntKind.u32.wrap J.fst))) 129 .live)]) else none) else none) else none) else none) else none) else none) else some ((.exit 0),av 67 [(1,(.lst false 129 G.length (ai G))),(5,(.sl false 129 0 0 zs.length)),(17,(.lst false 129 j.length (ai j))),(18,(.val (.int .i64 n))),(19,(.val (.int .i64 i)))], [(.row (.ints .u32 zs) 129 .live)]))):=by kernel_rfl
theorem OC {G:List Int} {zs:List Int} {j:List Int} {n:Int} {i:Int} {e:Ex} {T:List AV} {H:Hp} (h:aN Tryz.prog (HD sU jW) 109 [1,5,17,18,19] (lb 109 gj) (false :: gj) (ja G zs j n i) (iE G zs j n i)=some (e,T,H)):V.Ends Tryz.prog false 0 0 (lb 109 gj) (ja G zs j n i) (iE G zs j n i) e T H:=
 bw (aH _) (QH aB.none).ok mixed Tx h
def uT (G zs j:List Int) (n i:Int):Prop:=
 aI G∧aI j∧j.length+G.length≤17592186044416∧n=j.length∧i=0∧zs=List.replicate (j.length+G.length) 0
def DM (G zs j:List Int) (n i:Int) (r:Int×List Int):Prop:=aI r.2∧r.2.length=j.length+G.length∧vL r.2=vL j*vL G
theorem adY (j G:List Int) (Z:aI j) (U:aI G) (c7:G.length+j.length≤17592186044416) (d:Nat):∀ (i:Nat) (out:List Int),i+d=G.length→aI out→out.length=G.length+j.length→vL out=vL (G.take i)*vL j→
  ∃ r:Int×List Int,aw Tryz.prog (lb 109 gj) (ja j out G G.length i) (iE j out G G.length i) (.exit 0) (ja j r.2 G G.length r.1) (iE j r.2 G G.length r.1)∧
   aI r.2∧r.2.length=G.length+j.length∧vL r.2=vL G*vL j:=by
 induction d with
 | zero=>
  intro i out b8 I a4 J
  have ch:i=G.length:=by omega
  subst ch
  refine ⟨((G.length:Int),out), .last (OC ?_) (by intro h;cases h),I,a4, ?_⟩
  ·rw [Nw,dF (show ¬ ((G.length:Int) < G.length) by omega)]
   rfl
  ·rw [List.take_length] at J
   exact J
 | succ d bx=>
  intro i out b8 I a4 J
  have a3:i < G.length:=by omega
  obtain ⟨a,b4,b5,c0⟩:=cu U i a3
  have a7:=kD G i a3
  rw [b5,Int.toNat_natCast] at a7
  have a5:=dD (nH U i)
  rw [List.length_take,Nat.min_eq_left (by omega)] at a5
  have ct:=dD Z
  have c2:out.getD (i+j.length) 0=0:=by
   obtain ⟨o,c8,b6,c1⟩:=cu I (i+j.length) (by omega)
   have N:=Ld I (i+j.length) (by omega)
   have O:vL (G.take i)*vL j < 4294967296 ^ i*4294967296 ^ j.length:=Nat.mul_lt_mul'' a5 ct
   rw [b6,Int.toNat_natCast] at N
   rw [← Nat.pow_add,← J] at O
   have b3:o=0:=by
    rcases Nat.eq_zero_or_pos o with a0 | a0
    ·exact a0
    ·have:=Nat.le_mul_of_pos_right (4294967296 ^ (i+j.length)) a0
     omega
   rw [c1,b3];rfl
  have a6:uS j out i a 0 G G.length i j j.length 0:= ⟨Z,I,U,Z,by omega,rfl,rfl,rfl,e9 b4,i,rfl,by omega⟩
  obtain ⟨_,bD,c6,a2,q,b0,b1,ab⟩:=MM _ _ _ _ _ _ _ _ _ _ _ a6
  have S:=Nw sU jW j out G G.length i
  simp only [jZ,Nat.mul_one,Nat.zero_add,Int.toNat_natCast,c0,eq_self,decide_true] at S
  rw [Us _ _ _ _ _ _ _ _ _ _ _ a6] at S
  generalize jW j out i a 0 G G.length i j j.length 0=r at*
  rw [Int.toNat_natCast] at a2 ab
  rw [Int.toNat_natCast] at ab
  have a1:i+j.length < r.2.2.length:=by omega
  have M:=n7 r.2.2 (i+j.length) a1 (q:Int)
  have b7:r.2.2[i+j.length]=0:=by
   rw [← c2,← a2,List.getD_eq_getElem?_getD,List.getElem?_eq_getElem a1];rfl
  rw [b7] at M
  simp only [Int.toNat_natCast,Int.toNat_zero,Nat.mul_zero,Nat.add_zero] at M
  obtain ⟨c5,N,O⟩:=bx (i+1) (r.2.2.set (i+j.length) (q:Int)) (by omega) (fg bD _ _ (by omega) (by omega)) (by rw [List.length_set];omega) (by
   rw [M,ab,J,a7];grind)
  refine ⟨c5, .more (OC ?_) N,O⟩
  clear N O bx M
  have b2:(i:Int)+(j.length:Int)=((i+j.length:Nat):Int):=by omega
  have c3:aj .i64 ((i:Int)+1)=true:=aO (by omega)
  have c4:aj .i64 ((i+j.length:Nat):Int)=true:=aO (by omega)
  rw [iH Z,iH U,b2,Int.toNat_natCast,c3,c4,dT (show (i:Int) < G.length by omega),dT (show (0:Int)≤(i:Int) by omega),dT (show (0:Int)≤((i+j.length:Nat):Int) by omega),dT (show ((i+j.length:Nat):Int) < (r.2.2.length:Int) by omega),dT a1,b1,dm,Nat.mod_eq_of_lt b0] at S
  rw [S]
  unfold ja iE
  rw [List.length_set]
  rfl
theorem Yo (G zs j:List Int) (n i:Int) (h:uT G zs j n i):∃ r:Int×List Int,aw Tryz.prog (lb 109 gj) (ja G zs j n i) (iE G zs j n i) (.exit 0) (ja G r.2 j n r.1) (iE G r.2 j n r.1)∧DM G zs j n i r:=by
 obtain ⟨I,J,M,rfl,rfl,rfl⟩:=h
 exact adY G j I J M j.length 0 _ (by omega) (kM _) (by simp) (by rw [GS];simp [cp])
def GG (O:List Int→List Int→List Int→Int→Int→Bool) (M:List Int→List Int→List Int→Int→Int→Int×List Int) (T:List AV) (H:Hp):Option (Bool×Ex×List AV×Hp):=
 match al T 1,al T 5,al T 17,al T 18,al T 19,H with
 | .lst false 129 J G, .sl false 129 0 0 N, .lst false 129 I j, .val (.int .i64 n), .val (.int .i64 i), [.row (.ints .u32 zs) 129 .live]=>bif T.length==67 then some (okB J G&&okB I j&&decide (N=zs.length)&&O (rowOf J G) zs (rowOf I j) n i, .exit 0,ja (rowOf J G) ((M (rowOf J G) zs (rowOf I j) n i).2) (rowOf I j) n ((M (rowOf J G) zs (rowOf I j) n i).1),iE (rowOf J G) ((M (rowOf J G) zs (rowOf I j) n i).2) (rowOf I j) n ((M (rowOf J G) zs (rowOf I j) n i).1)) else none
 | _,_,_,_,_,_=>none
abbrev AL:Type:=List Int→List Int→List Int→Int→Int→Bool
abbrev As:Type:=List Int→List Int→List Int→Int→Int→Int×List Int
def Jb (j:AL) (G:As) (L:aE):aE:=bp 0 109 gj [1,5,17,18,19] (GG j G) L
def lT (G:List Int) (zs:List Int) (j:List Int) (n:Int) (i:Int):Int×List Int:=Classical.epsilon fun ρ=>aw Tryz.prog (lb 109 gj) (ja G zs j n i) (iE G zs j n i) (.exit 0) (ja G (ρ.2) j n (ρ.1)) (iE G (ρ.2) j n (ρ.1))∧DM G zs j n i ρ
theorem MN (G:List Int) (zs:List Int) (j:List Int) (n:Int) (i:Int) (h:uT G zs j n i):aw Tryz.prog (lb 109 gj) (ja G zs j n i) (iE G zs j n i) (.exit 0) (ja G ((lT G zs j n i).2) j n ((lT G zs j n i).1)) (iE G ((lT G zs j n i).2) j n ((lT G zs j n i).1))∧DM G zs j n i (lT G zs j n i):=Classical.epsilon_spec (Yo G zs j n i h)
def sV (G:List Int) (zs:List Int) (j:List Int) (n:Int) (i:Int):Bool:= @decide (uT G zs j n i) (Classical.propDecidable _)
theorem Ut (G:List Int) (zs:List Int) (j:List Int) (n:Int) (i:Int) (h:uT G zs j n i):sV G zs j n i=true:= @decide_eq_true _ (Classical.propDecidable _) h
theorem adT (T:List AV) (H:Hp) (e:Ex) (I:List AV) (G:Hp) (h:GG sV lT T H=some (true,e,I,G)):V.Ends Tryz.prog false 0 0 (.loop (lb 109 gj)) T H e I G:=by
 unfold GG at h
 split at h
 ·rename_i a7 O bx a6 N n i zs S a0 U Z ab
  rw [Bool.cond_eq_ite] at h
  split at h
  ·rename_i J
   rw [beq_iff_eq] at J
   simp only [Option.some.injEq,Prod.mk.injEq,Bool.and_eq_true,decide_eq_true_eq] at h
   obtain ⟨⟨⟨⟨k1,a2⟩,a3⟩,a4⟩,rfl,rfl,rfl⟩:=h
   have a5:= @of_decide_eq_true _ (Classical.propDecidable _) a4
   refine Ends.pre (MN (rowOf a7 O) zs (rowOf a6 N) n i a5).1.ends (fun α B w D bD a1=>bm J (fun p M y j=> ?_) a1)
   simp only [List.mem_cons,List.not_mem_nil,or_false] at M
   rcases M with rfl | rfl | rfl | rfl | rfl
   ·rw [S] at j;rw [cc];exact cn bZ k1 j
   ·rw [a0] at j;rw [← a3];exact j
   ·rw [U] at j;rw [cc];exact cn bZ a2 j
   ·rw [Z] at j;exact j
   ·rw [ab] at j;exact j
  ·cases h
 ·cases h
theorem QI {L:aE} (h:aB Tryz.prog L):aB Tryz.prog (Jb sV lT L):=h.br RS adT
def HE (j:Sg) (G:AL) (I:As):Env:= ⟨CT j,ar,Jb G I aq⟩
theorem ac4 (J:Sg) (N:AL) (O:As) (j G:List Int):letI M:=((↑j.length:Int)+(↑G.length:Int));letI I:=(O (rowOf G.length (ai G)) (List.replicate M.toNat (0:Int)) (rowOf j.length (ai j)) (↑j.length:Int) (0:Int));
  (aD Tryz.prog (HE J N O) 10 10 109 [.lst false 129 j.length (ai j), .lst false 129 G.length (ai G)]=(bif aj IntKind.i64 M then (bif decide ((↑j.length:Int)+(↑G.length:Int)≤(↑j.length:Int)+(↑G.length:Int))&&decide ((4:Int)*M≤(281474976710656:Int))&&decide ((↑j.length:Int)+(↑G.length:Int)≤(9223372036854775807:Int)) then (bif okB G.length (ai G)&&okB j.length (ai j)&&decide (M.toNat=(List.replicate M.toNat (0:Int)).length)&&N (rowOf G.length (ai G)) (List.replicate M.toNat (0:Int)) (rowOf j.length (ai j)) (↑j.length:Int) (0:Int) then (bif decide ((0:Nat)+I.snd.length*(1:Nat)≤I.snd.length) then (bif J.bL I.snd.length (ai I.snd) then some (.lst false 129 (J.len (J.num I.snd.length (ai I.snd))) (J.row (J.num I.snd.length (ai I.snd)))) else none) else none) else none) else none) else none)):=by kernel_rfl
def zu (j:Sg) (args:List AV):Option (Bool×AV):=match args with | [.lst _ 129 m f, .lst _ 129 n g]=>some (j.aL m f&&j.aL n g,j.fF (j.num m f*j.num n g)) | _=>none
theorem Ko:Entry Tryz.prog 109 (zu aa):=by
 refine im (E:=HE aa sV lT) (u:=10) (d:=10) rZ (QI aB.none).ok (by kernel_rfl) (fun args r h=> ?_)
 unfold zu at h
 split at h
 ·rename_i fl m f b1 n g
  simp only [Option.some.injEq,Prod.mk.injEq,Bool.and_eq_true,decide_eq_true_eq] at h
  obtain ⟨⟨a1,a2⟩,rfl⟩:=h
  obtain ⟨N,I,bx,O⟩:=qQ a1
  obtain ⟨S,J,bD,U⟩:=qQ a2
  have M:uT (rowOf n g) (List.replicate ((rowOf m f).length+(rowOf n g).length) 0) (rowOf m f) (rowOf m f).length 0:= ⟨J,I,by omega,rfl,rfl,rfl⟩
  obtain ⟨_,Z,b0,ab⟩:=MN _ _ _ _ _ M
  have j:=ac4 aa sV lT (rowOf m f) (rowOf n g)
  have a0:((rowOf m f).length:Int)+((rowOf n g).length:Int)=(((rowOf m f).length+(rowOf n g).length:Nat):Int):=by omega
  simp only [jZ,Nat.mul_one,Nat.zero_add,a0,Int.toNat_natCast,List.length_replicate,eq_self,decide_true] at j
  rw [Ut _ _ _ _ _ M] at j
  generalize lT (rowOf n g) (List.replicate ((rowOf m f).length+(rowOf n g).length) 0) (rowOf m f) (rowOf m f).length 0=r at*
  rw [iH I,iH J,bz _ (by omega),dT (show (((rowOf m f).length+(rowOf n g).length:Nat):Int)≤(((rowOf m f).length+(rowOf n g).length:Nat):Int) by omega),dT (show (4:Int)*(((rowOf m f).length+(rowOf n g).length:Nat):Int)≤281474976710656 by omega),dT (show (((rowOf m f).length+(rowOf n g).length:Nat):Int)≤9223372036854775807 by omega),dT (show r.2.length≤r.2.length by omega),lI Z (by omega),lC,ab] at j
  refine ⟨_,_,j,fun B w b2 G=> ?_,fun B w y G=>by rw [O,U];exact G⟩
  obtain ⟨y,zs,rfl,a3,a4⟩:=G
  obtain ⟨a7,zs,rfl,a5,a6⟩:=a4
  exact ⟨y,_,rfl,kL N a3,a7,_,rfl,kL S a5,a6⟩
 ·cases h
end
end Go.Proofs.YtamcpiicmfielaaGreat.L
namespace Go.Proofs.YtamcpiicmfielaaGreat.L
open Go Go.V Go.RowKit Go.Proofs.YtamcpiicmfielaaGreat.Sp Go.Proofs.YtamcpiicmfielaaGreat.F Go.Proofs.YtamcpiicmfielaaGreatW.PrintWords
open Go.Proofs (Tryz.prog)
noncomputable section
abbrev fN:List Bool:= [false,true,false,true,true,true]
def j7 (v:Int) (n:Int) (i:Int) (b:Bool) (s:ByteArray):List AV:=av 30 [(1, .ptr 0 0),(4, .val (.int .i64 v)),(12, .val (.int .i64 n)),(13, .val (.int .i64 i))]
def jr (v:Int) (n:Int) (i:Int) (b:Bool) (s:ByteArray):Hp:= [.row (.cells [.val (.bool b), .val (.string s)]) 81 .live]
theorem Rn:aJ Tryz.prog 117 fN=some (.loop (lb 117 fN)):=by kernel_rfl
theorem SW:aJ Tryz.prog 117 (false :: fN)=some (lb 117 fN):=by kernel_rfl
theorem M9 (v:Int) (n:Int) (i:Int) (b:Bool) (s:ByteArray):aN Tryz.prog bj 117 [1,4,12,13] (lb 117 fN) (false :: fN) (j7 v n i b s) (jr v n i b s)=
  (bif decide (i < n) then (bif aj IntKind.i64 (v*(256:Int)) then (bif decide ((0:Int)≤i)&&decide (i < (↑s.size:Int)) then (bif aj IntKind.i64 (aR s i.toNat) then (bif aj IntKind.i64 (i+(1:Int)) then some (.normal,av 30 [(1,(.ptr 0 0)),(4,(.val (.int .i64 (bV BinOp.or IntKind.i64 (v*(256:Int)) (aR s i.toNat))))),(12,(.val (.int .i64 n))),(13,(.val (.int .i64 (i+(1:Int)))))], [(.row (.cells [(.val (.bool b)),(.val (.string s))]) 81 .live)]) else none) else none) else none) else none) else some ((.exit 0),av 30 [(1,(.ptr 0 0)),(4,(.val (.int .i64 v))),(12,(.val (.int .i64 n))),(13,(.val (.int .i64 i)))], [(.row (.cells [(.val (.bool b)),(.val (.string s))]) 81 .live)])):=by kernel_rfl
theorem Oc {v:Int} {n:Int} {i:Int} {b:Bool} {s:ByteArray} {e:Ex} {T:List AV} {H:Hp} (h:aN Tryz.prog bj 117 [1,4,12,13] (lb 117 fN) (false :: fN) (j7 v n i b s) (jr v n i b s)=some (e,T,H)):V.Ends Tryz.prog false 0 0 (lb 117 fN) (j7 v n i b s) (jr v n i b s) e T H:=
 bw (aH _) aK mixed SW h
def uo (v n i:Int) (b:Bool) (s:ByteArray):Prop:=s.size≤7∧n=s.size∧v=0∧i=0
def yq (v n i:Int) (b:Bool) (s:ByteArray) (r:Int×Int):Prop:=r.1=(vS s:Nat)
theorem pO (s:ByteArray) (i:Nat) (h:i < s.size):(vB (s.data.toList.take (i+1)):Int)=(vB (s.data.toList.take i):Int)*256+aR s i:=by
 have j:i < s.data.toList.length:=by rw [Array.length_toList];exact h
 rw [List.take_succ_eq_append_getElem j,vN]
 unfold aR
 rw [List.getD_eq_getElem?_getD,List.getElem?_eq_getElem j,Option.getD_some]
 omega
theorem Za (v b:Nat) (M:v < 36028797018963968) (J:b < 256):bV .or .i64 ((v:Int)*256) (b:Int)=((v*256+b:Nat):Int):=by
 have j:Go.bits .or .i64 ((v*256:Nat):Int) ((b:Nat):Int)=((v*256+b:Nat):Int):=by
  have:=bits_join .i64 63 (by decide) (fun n G I=>by rw [IntKind.wrap_i64];omega) 8 ((v*256:Nat):Int) ((b:Nat):Int) (by omega) (by omega) (by omega) (by omega) (by omega) (by omega)
  rw [this];omega
 rw [Int.natCast_mul] at j
 exact j
theorem Xv (s:ByteArray) (b:Bool) (U:s.size≤7) (d:Nat):∀ i:Nat,i+d=s.size→∃ r:Int×Int,aw Tryz.prog (lb 117 fN) (j7 (vB (s.data.toList.take i):Nat) s.size i b s) (jr (vB (s.data.toList.take i):Nat) s.size i b s) (.exit 0) (j7 r.1 s.size r.2 b s) (jr r.1 s.size r.2 b s)∧r.1=(vS s:Nat):=by
 induction d with
 | zero=>
  intro i M
  have N:i=s.size:=by omega
  subst N
  have e:s.data.toList.take s.size=s.data.toList:=List.take_of_length_le (by rw [Array.length_toList];exact Nat.le_refl _)
  refine ⟨((vB (s.data.toList.take s.size):Nat),(s.size:Int)), .last (Oc ?_) (by intro h;cases h),by rw [e];rfl⟩
  rw [M9,dF (show ¬ ((s.size:Int) < s.size) by omega)]
  rfl
 | succ d S=>
  intro i M
  obtain ⟨r,G,I⟩:=S (i+1) (by omega)
  refine ⟨r, .more (Oc ?_) G,I⟩
  rw [M9]
  have J:=lj s i
  have Z:vB (s.data.toList.take i) < 256 ^ 6:=by
   refine Nat.lt_of_lt_of_le (nZ _) (Nat.pow_le_pow_right (by decide) ?_)
   rw [List.length_take,Array.length_toList]
   have:s.data.size=s.size:=rfl
   omega
  have O:=pO s i (by omega)
  obtain ⟨c,j⟩:∃ c:Nat,aR s i=c:= ⟨(aR s i).toNat,by omega⟩
  rw [j] at J O
  rw [Int.toNat_natCast,j,Za _ _ (by omega) (by omega),aO (show -9223372036854775808≤((vB (s.data.toList.take i):Nat):Int)*256∧((vB (s.data.toList.take i):Nat):Int)*256≤9223372036854775807 by omega),aO (show -9223372036854775808≤(c:Int)∧(c:Int)≤9223372036854775807 by omega),aO (show -9223372036854775808≤(i:Int)+1∧(i:Int)+1≤9223372036854775807 by omega),dT (show (i:Int) < s.size by omega),dT (show (0:Int)≤(i:Int) by omega)]
  have e:vB (s.data.toList.take (i+1))=vB (s.data.toList.take i)*256+c:=by omega
  rw [e]
  rfl
theorem XU (v n i:Int) (b:Bool) (s:ByteArray) (h:uo v n i b s):∃ r:Int×Int,aw Tryz.prog (lb 117 fN) (j7 v n i b s) (jr v n i b s) (.exit 0) (j7 r.1 n r.2 b s) (jr r.1 n r.2 b s)∧yq v n i b s r:=by
 obtain ⟨j,rfl,rfl,rfl⟩:=h
 exact Xv s b j s.size 0 (by omega)
def F9 (G:Int→Int→Int→Bool→ByteArray→Bool) (j:Int→Int→Int→Bool→ByteArray→Int×Int) (T:List AV) (H:Hp):Option (Bool×Ex×List AV×Hp):=
 match al T 1,al T 4,al T 12,al T 13,H with
 | .ptr 0 0, .val (.int .i64 v), .val (.int .i64 n), .val (.int .i64 i), [.row (.cells [.val (.bool b), .val (.string s)]) 81 .live]=>bif T.length==30 then some (G v n i b s, .exit 0,j7 ((j v n i b s).1) n ((j v n i b s).2) b s,jr ((j v n i b s).1) n ((j v n i b s).2) b s) else none
 | _,_,_,_,_=>none
abbrev wj:Type:=Int→Int→Int→Bool→ByteArray→Bool
abbrev wh:Type:=Int→Int→Int→Bool→ByteArray→Int×Int
def IW (j:wj) (G:wh) (L:aE):aE:=bp 0 117 fN [1,4,12,13] (F9 j G) L
def nL (v:Int) (n:Int) (i:Int) (b:Bool) (s:ByteArray):Int×Int:=Classical.epsilon fun ρ=>aw Tryz.prog (lb 117 fN) (j7 v n i b s) (jr v n i b s) (.exit 0) (j7 (ρ.1) n (ρ.2) b s) (jr (ρ.1) n (ρ.2) b s)∧yq v n i b s ρ
theorem Mn (v:Int) (n:Int) (i:Int) (b:Bool) (s:ByteArray) (h:uo v n i b s):aw Tryz.prog (lb 117 fN) (j7 v n i b s) (jr v n i b s) (.exit 0) (j7 ((nL v n i b s).1) n ((nL v n i b s).2) b s) (jr ((nL v n i b s).1) n ((nL v n i b s).2) b s)∧yq v n i b s (nL v n i b s):=Classical.epsilon_spec (XU v n i b s h)
def xa (v:Int) (n:Int) (i:Int) (b:Bool) (s:ByteArray):Bool:= @decide (uo v n i b s) (Classical.propDecidable _)
theorem JW (v:Int) (n:Int) (i:Int) (b:Bool) (s:ByteArray) (h:uo v n i b s):xa v n i b s=true:= @decide_eq_true _ (Classical.propDecidable _) h
theorem adp (T:List AV) (H:Hp) (e:Ex) (I:List AV) (G:Hp) (h:F9 xa nL T H=some (true,e,I,G)):V.Ends Tryz.prog false 0 0 (.loop (lb 117 fN)) T H e I G:=by
 unfold F9 at h
 split at h
 ·rename_i v n i b s N U O S
  rw [Bool.cond_eq_ite] at h
  split at h
  ·rename_i J
   rw [beq_iff_eq] at J
   simp only [Option.some.injEq,Prod.mk.injEq,Bool.and_eq_true,decide_eq_true_eq] at h
   obtain ⟨k1,rfl,rfl,rfl⟩:=h
   have ab:= @of_decide_eq_true _ (Classical.propDecidable _) k1
   refine Ends.pre (Mn v n i b s ab).1.ends (fun α B w D a0 Z=>bm J (fun p M y j=> ?_) Z)
   simp only [List.mem_cons,List.not_mem_nil,or_false] at M
   rcases M with rfl | rfl | rfl | rfl
   ·rw [N] at j;exact j
   ·rw [U] at j;exact j
   ·rw [O] at j;exact j
   ·rw [S] at j;exact j
  ·cases h
 ·cases h
theorem Qh {L:aE} (h:aB Tryz.prog L):aB Tryz.prog (IW xa nL L):=h.br Rn adp
def z8 (j:wj) (G:wh):Env:= ⟨aF,ar,IW j G aq⟩
theorem Lf (j:wj) (G:wh) (s:ByteArray):aD Tryz.prog (z8 j G) 10 10 117 [.agg [.val (.bool true), .val (.string s)]]=
  (bif decide ((7:Int) < (↑s.size:Int)) then some (.tup [(.val (.int .i64 0)),(.val (.bool false))]) else (bif j (0:Int) (↑s.size:Int) (0:Int) true s then some (.tup [(.val (.int .i64 (IntKind.i64.wrap ((0:Int) - (G (0:Int) (↑s.size:Int) (0:Int) true s).fst)))),(.val (.bool true))]) else none)):=by kernel_rfl
theorem Le (j:wj) (G:wh) (s:ByteArray):aD Tryz.prog (z8 j G) 10 10 117 [.agg [.val (.bool false), .val (.string s)]]=
  (bif decide ((7:Int) < (↑s.size:Int)) then some (.tup [(.val (.int .i64 0)),(.val (.bool false))]) else (bif j (0:Int) (↑s.size:Int) (0:Int) false s then some (.tup [(.val (.int .i64 ((G (0:Int) (↑s.size:Int) (0:Int) false s).fst))),(.val (.bool true))]) else none)):=by kernel_rfl
structure Sl where
 b:Bool→ByteArray→Bool
 v:Bool→ByteArray→Int
def ky:Sl where
 b _ s:=decide (s.size≤7)
 v b s:=if s.size≤7 then Sp.val b s else 0
def Fz (j:Sl) (args:List AV):Option (Bool×AV):=match args with | [.agg [.val (.bool b), .val (.string s)]]=>some (decide (s.size≤140737488355328), .tup [.val (.int .i64 (j.v b s)), .val (.bool (j.b b s))]) | _=>none
theorem pP {s:ByteArray} (h:s.size≤7):vS s < 72057594037927936:=Nat.lt_of_lt_of_le (ld s) (Nat.pow_le_pow_right (by decide:0 < 256) h)
theorem Vu:Entry Tryz.prog 117 (Fz ky):=by
 refine aX (E:=z8 xa nL) (u:=10) (d:=10) (aH _) (Qh aB.none).ok mixed (by kernel_rfl) (fun args r h=> ?_)
 unfold Fz at h
 split at h
 ·rename_i b s
  simp only [Option.some.injEq,Prod.mk.injEq,decide_eq_true_eq] at h
  obtain ⟨O,rfl⟩:=h
  by_cases j:s.size≤7
  ·have M:uo 0 s.size 0 b s:= ⟨j,rfl,rfl,rfl⟩
   have J:=(Mn _ _ _ _ _ M).2
   have N:=pP j
   unfold yq at J
   have G:ky.v b s=val b s:=if_pos j
   have I:ky.b b s=true:=decide_eq_true j
   rw [G,I]
   cases b with
   | true=>
    rw [Lf,JW _ _ _ _ _ M,J,dF (show ¬ ((7:Int) < s.size) by omega)]
    refine congrArg some ?_
    have e:IntKind.i64.wrap (0 - ((vS s:Nat):Int))= -((vS s:Nat):Int):=by rw [IntKind.wrap_i64];omega
    show AV.tup [AV.val (.int .i64 (IntKind.i64.wrap (0 - ((vS s:Nat):Int)))),_]=_
    rw [e]
    rfl
   | false=>
    rw [Le,JW _ _ _ _ _ M,J,dF (show ¬ ((7:Int) < s.size) by omega)]
    rfl
  ·have G:ky.v b s=0:=if_neg j
   have I:ky.b b s=false:=decide_eq_false j
   rw [G,I]
   cases b with
   | true=>rw [Lf,dT (show (7:Int) < s.size by omega)];rfl
   | false=>rw [Le,dT (show (7:Int) < s.size by omega)];rfl
 ·cases h
def CA (j:Sg) (G:Sl):FuncId→List AV→Option (Bool×AV):=
 an 117 (Fz G) (an 106 (vA j) (an 108 (y4 j) (an 109 (zu j) (an 118 (y5 j) (an 119 (FA j) (an 107 (vz j) (an 69 (kB j) aF)))))))
theorem GY:bb Tryz.prog (CA aa ky):=((((((((aH _).add xu).add BQ).add Vw).add Ka).add Ko).add BU).add BS).add Vu
def EA (j:Sg) (G:Sl):Env:= ⟨CA j G,ar,aq⟩
theorem YI (j:Sg) (G:Sl) (b c:Bool) (s t:ByteArray):aD Tryz.prog (EA j G) 10 10 65 [.agg [.val (.bool b), .val (.string s)], .agg [.val (.bool c), .val (.string t)]]=
  (bif j.ok s then (bif j.ok t then (bif j.aL (j.len (j.vs s)) (j.row (j.vs s))&&j.aL (j.len (j.vs t)) (j.row (j.vs t)) then (bif j.bL (j.len (j.num (j.len (j.vs s)) (j.row (j.vs s))*j.num (j.len (j.vs t)) (j.row (j.vs t)))) (j.row (j.num (j.len (j.vs s)) (j.row (j.vs s))*j.num (j.len (j.vs t)) (j.row (j.vs t)))) then some (.agg [(.val (.bool (j.ng (j.sg (bif true then !b==c else b==c) (j.num (j.len (j.num (j.len (j.vs s)) (j.row (j.vs s))*j.num (j.len (j.vs t)) (j.row (j.vs t)))) (j.row (j.num (j.len (j.vs s)) (j.row (j.vs s))*j.num (j.len (j.vs t)) (j.row (j.vs t))))))))),(.val (.string (j.ms (j.sg (bif true then !b==c else b==c) (j.num (j.len (j.num (j.len (j.vs s)) (j.row (j.vs s))*j.num (j.len (j.vs t)) (j.row (j.vs t)))) (j.row (j.num (j.len (j.vs s)) (j.row (j.vs s))*j.num (j.len (j.vs t)) (j.row (j.vs t)))))))))]) else none) else none) else none) else none):=by kernel_rfl
theorem QN (j:Sg) (G:Sl) (b c:Bool) (s t:ByteArray):letI I:=(j.num (j.len (j.vs s)) (j.row (j.vs s))+j.num (j.len (j.vs t)) (j.row (j.vs t)));letI J:=(j.num (j.len (j.vs t)) (j.row (j.vs t)) - j.num (j.len (j.vs s)) (j.row (j.vs s)));letI M:=(j.num (j.len (j.vs s)) (j.row (j.vs s)) - j.num (j.len (j.vs t)) (j.row (j.vs t)));letI N:Option AV:=(bif j.ok s then (bif j.ok t then (bif bif false then !b==c else b==c then (bif j.aL (j.len (j.vs s)) (j.row (j.vs s))&&j.aL (j.len (j.vs t)) (j.row (j.vs t)) then (bif j.bL (j.len I) (j.row I) then some (.agg [(.val (.bool (j.ng (j.sg b (j.num (j.len I) (j.row I)))))),(.val (.string (j.ms (j.sg b (j.num (j.len I) (j.row I))))))]) else none) else none) else (bif j.can (j.len (j.vs s)) (j.row (j.vs s))&&j.can (j.len (j.vs t)) (j.row (j.vs t)) then (bif decide (j.cmp (j.num (j.len (j.vs s)) (j.row (j.vs s))) (j.num (j.len (j.vs t)) (j.row (j.vs t))) < (0:Int)) then (bif j.can (j.len (j.vs t)) (j.row (j.vs t))&&j.can (j.len (j.vs s)) (j.row (j.vs s))&&decide (j.num (j.len (j.vs s)) (j.row (j.vs s))≤j.num (j.len (j.vs t)) (j.row (j.vs t))) then (bif j.bL (j.len J) (j.row J) then some (.agg [(.val (.bool (j.ng (j.sg c (j.num (j.len J) (j.row J)))))),(.val (.string (j.ms (j.sg c (j.num (j.len J) (j.row J))))))]) else none) else none) else (bif j.can (j.len (j.vs s)) (j.row (j.vs s))&&j.can (j.len (j.vs t)) (j.row (j.vs t))&&decide (j.num (j.len (j.vs t)) (j.row (j.vs t))≤j.num (j.len (j.vs s)) (j.row (j.vs s))) then (bif j.bL (j.len M) (j.row M) then some (.agg [(.val (.bool (j.ng (j.sg b (j.num (j.len M) (j.row M)))))),(.val (.string (j.ms (j.sg b (j.num (j.len M) (j.row M))))))]) else none) else none)) else none)) else none) else none);
  (aD Tryz.prog (EA j G) 10 10 75 [.agg [.val (.bool b), .val (.string s)], .agg [.val (.bool c), .val (.string t)]]=(bif decide (s.size≤(140737488355328:Nat)) then (bif G.b b s then (bif decide (t.size≤(140737488355328:Nat)) then (bif G.b c t then (bif aj IntKind.i64 (G.v b s+G.v c t) then (bif cI (G.v b s+G.v c t) then some (.agg [(.val (.bool (j.ng (G.v b s+G.v c t)))),(.val (.string (j.ms (G.v b s+G.v c t))))]) else none) else none) else N) else none) else N) else none)):=by kernel_rfl
def rC (j:Sg) (args:List AV):Option (Bool×AV):=match args with | [.agg [.val (.bool b), .val (.string s)], .agg [.val (.bool c), .val (.string t)]]=>some (j.ok s&&j.ok t,j.int (j.val b s*j.val c t)) | _=>none
def kA (j:Sg) (args:List AV):Option (Bool×AV):=match args with | [.agg [.val (.bool b), .val (.string s)], .agg [.val (.bool c), .val (.string t)]]=>some (j.ok s&&j.ok t,j.int (j.val b s+j.val c t)) | _=>none
def rK (j:Sg) (args:List AV):Option (Bool×AV):=match args with | [.agg [.val (.bool b), .val (.string s)], .agg [.val (.bool c), .val (.string t)]]=>some (j.ok s&&j.ok t,j.int (j.val b s - j.val c t)) | _=>none
theorem nI {s:ByteArray} (h:aa.ok s=true):bs (aa.vs s)≤8796093022208:=Nat.le_trans (ot s) (of_decide_eq_true h)
theorem Vx:Entry Tryz.prog 65 (rC aa):=by
 refine aX (E:=EA aa ky) (u:=10) (d:=10) GY aK mixed (by kernel_rfl) (fun args r h=> ?_)
 unfold rC at h
 split at h
 ·rename_i b s c t
  simp only [Option.some.injEq,Prod.mk.injEq,Bool.and_eq_true] at h
  obtain ⟨⟨G,I⟩,rfl⟩:=h
  have k1:=nI G
  have J:=nI I
  have M:=wH (aa.vs s) (aa.vs t)
  have j:=YI aa ky b c s t
  simp only [mw] at j
  rw [G,I,qR k1,qR J,qP (by omega)] at j
  rw [j]
  refine congrArg some ?_
  show aa.int (aa.sg _ (aa.vs s*aa.vs t))=_
  refine congrArg aa.int ?_
  show (if _ then -((vS s*vS t:Nat):Int) else ((vS s*vS t:Nat):Int))=Sp.val b s*Sp.val c t
  unfold Sp.val
  cases b <;> cases c <;> simp [Int.neg_mul,Int.mul_neg]
 ·cases h
theorem Jg (b c:Bool) (s t:ByteArray) (I:aa.ok s=true) (J:aa.ok t=true) (X:Option AV):
  X=(bif aa.ok s then bif aa.ok t then bif b==c then (bif aa.aL (aa.len (aa.vs s)) (aa.row (aa.vs s))&&aa.aL (aa.len (aa.vs t)) (aa.row (aa.vs t)) then bif aa.bL (aa.len (aa.vs s+aa.vs t)) (aa.row (aa.vs s+aa.vs t)) then some (aa.int (aa.sg b (aa.vs s+aa.vs t))) else none else none)
   else (bif aa.can (aa.len (aa.vs s)) (aa.row (aa.vs s))&&aa.can (aa.len (aa.vs t)) (aa.row (aa.vs t)) then
    bif decide (aa.cmp (aa.vs s) (aa.vs t) < 0) then (bif aa.can (aa.len (aa.vs t)) (aa.row (aa.vs t))&&aa.can (aa.len (aa.vs s)) (aa.row (aa.vs s))&&decide (aa.vs s≤aa.vs t) then bif aa.bL (aa.len (aa.vs t - aa.vs s)) (aa.row (aa.vs t - aa.vs s)) then some (aa.int (aa.sg c (aa.vs t - aa.vs s))) else none else none)
    else (bif aa.can (aa.len (aa.vs s)) (aa.row (aa.vs s))&&aa.can (aa.len (aa.vs t)) (aa.row (aa.vs t))&&decide (aa.vs t≤aa.vs s) then bif aa.bL (aa.len (aa.vs s - aa.vs t)) (aa.row (aa.vs s - aa.vs t)) then some (aa.int (aa.sg b (aa.vs s - aa.vs t))) else none else none)
    else none) else none else none)→X=some (aa.int (aa.val b s+aa.val c t)):=by
 intro M
 have k1:=nI I
 have S:=nI J
 have U:=sj (aa.vs s) (aa.vs t)
 have Z:=Jx (aa.vs s) (aa.vs t)
 have ab:=Jx (aa.vs t) (aa.vs s)
 rw [I,J] at M
 rw [M]
 have j:∀ (b:Bool) (s:ByteArray),aa.val b s=if b=true then -(aa.vs s:Int) else (aa.vs s:Int):=fun b s=>rfl
 by_cases G:b=c
 ·subst G
  rw [beq_self_eq_true,qR k1,qR S,qP (by omega)]
  show some (aa.int (if b=true then -((aa.vs s+aa.vs t:Nat):Int) else ((aa.vs s+aa.vs t:Nat):Int)))=_
  rw [j,j]
  cases b
  ·simp
  ·simp only [if_true];congr 2;omega
 ·rw [beq_eq_false_iff_ne.2 G,wO (by omega),wO (by omega)]
  have N:∀ a b:Nat,aa.cmp a b=if a < b then -1 else if b < a then 1 else 0:=fun a b=>rfl
  by_cases O:aa.vs s < aa.vs t
  ·rw [N,if_pos O,qP (n:=aa.vs t - aa.vs s) (by omega),dT (show aa.vs s≤aa.vs t by omega)]
   show some (aa.int (if c=true then -((aa.vs t - aa.vs s:Nat):Int) else ((aa.vs t - aa.vs s:Nat):Int)))=_
   rw [j,j]
   congr 2
   cases b <;> cases c <;> first | exact absurd rfl G | (simp only [if_true,Bool.false_eq_true,if_false];omega)
  ·rw [N,if_neg O,qP (n:=aa.vs s - aa.vs t) (by omega),dT (show aa.vs t≤aa.vs s by omega),dF (show ¬ ((if aa.vs t < aa.vs s then (1:Int) else 0) < 0) by split <;> omega)]
   show some (aa.int (if b=true then -((aa.vs s - aa.vs t:Nat):Int) else ((aa.vs s - aa.vs t:Nat):Int)))=_
   rw [j,j]
   congr 2
   cases b <;> cases c <;> first | exact absurd rfl G | (simp only [if_true,Bool.false_eq_true,if_false];omega)
theorem xt:Entry Tryz.prog 75 (kA aa):=by
 refine aX (E:=EA aa ky) (u:=10) (d:=10) GY aK mixed (by kernel_rfl) (fun args r h=> ?_)
 unfold kA at h
 split at h
 ·rename_i b s c t
  simp only [Option.some.injEq,Prod.mk.injEq,Bool.and_eq_true] at h
  obtain ⟨⟨J,M⟩,rfl⟩:=h
  have z1:s.size≤8796093022208:=of_decide_eq_true J
  have z2:t.size≤8796093022208:=of_decide_eq_true M
  have j:=QN aa ky b c s t
  simp only [mw] at j
  rw [dT (show s.size≤140737488355328 by omega),dT (show t.size≤140737488355328 by omega)] at j
  have N:∀ b s,ky.b b s=decide (s.size≤7):=fun b s=>rfl
  have O:∀ b s,ky.v b s=if s.size≤7 then aa.val b s else 0:=fun b s=>rfl
  rw [N,N,O,O] at j
  by_cases G:s.size≤7
  ·by_cases I:t.size≤7
   ·have S:=pP G
    have U:=pP I
    have Z:(aa.val b s).natAbs < 72057594037927936:=by rw [← lf];exact S
    have ab:(aa.val c t).natAbs < 72057594037927936:=by rw [← lf];exact U
    rw [dT G,dT I,if_pos G,if_pos I,aO (show -9223372036854775808≤aa.val b s+aa.val c t∧aa.val b s+aa.val c t≤9223372036854775807 by omega)] at j
    unfold cI at j
    rw [dT (show -9223372036854775808≤aa.val b s+aa.val c t by omega),dT (show aa.val b s+aa.val c t≤9223372036854775807 by omega)] at j
    exact j
   ·rw [dT G,dF I] at j
    exact Jg b c s t J M _ j
  ·rw [dF G] at j
   exact Jg b c s t J M _ j
 ·cases h
def EB (j:Sg):Env:= ⟨an 75 (kA j) aF,ar,aq⟩
theorem acY (j:Sg) (b c:Bool) (s t:ByteArray):aD Tryz.prog (EB j) 10 10 153 [.agg [.val (.bool b), .val (.string s)], .agg [.val (.bool c), .val (.string t)]]=
  (bif j.ok s&&j.ok t then some (.agg [(.val (.bool (j.ng (j.val b s+j.val (!c) t)))),(.val (.string (j.ms (j.val b s+j.val (!c) t))))]) else none):=by kernel_rfl
theorem Wa:Entry Tryz.prog 153 (rK aa):=by
 refine aX (E:=EB aa) (u:=10) (d:=10) ((aH _).add xt) aK mixed (by kernel_rfl) (fun args r h=> ?_)
 unfold rK at h
 split at h
 ·rename_i b s c t
  simp only [Option.some.injEq,Prod.mk.injEq,Bool.and_eq_true] at h
  obtain ⟨⟨G,I⟩,rfl⟩:=h
  have j:=acY aa b c s t
  rw [G,I,show aa.val (!c) t= -aa.val c t from Pn c t,← Int.sub_eq_add_neg] at j
  exact j
 ·cases h
end
end Go.Proofs.YtamcpiicmfielaaGreat.L
namespace Go.Proofs.YtamcpiicmfielaaGreat.L
open Go Go.V Go.RowKit Go.Proofs.YtamcpiicmfielaaGreat.Sp Go.Proofs.YtamcpiicmfielaaGreat.F Go.Proofs.YtamcpiicmfielaaGreatW.PrintWords
open Go.Proofs (Tryz.prog)
noncomputable section
def m9:Env:= ⟨aF,ar,aq⟩
def tD:ByteArray:= ⟨⟨[0,1] ++ List.replicate 2 2 ++ List.replicate 4 3 ++ List.replicate 8 4 ++ List.replicate 16 5 ++ List.replicate 32 6 ++ List.replicate 64 7 ++ List.replicate 128 8⟩⟩
def qD (c y:Int):Option AV:=bif decide (0≤IntKind.u8.wrap y)&&decide (IntKind.u8.wrap y < 256) then bif aj .i64 (aR tD (IntKind.u8.wrap y).toNat) then bif aj .i64 (c+aR tD (IntKind.u8.wrap y).toNat) then some (.val (.int .i64 (c+aR tD (IntKind.u8.wrap y).toNat))) else none else none else none
theorem Xq (x:Int):aD Tryz.prog m9 10 10 150 [.val (.int .u32 x)]=(bif decide (65536≤x) then bif decide (256≤x.fdiv 65536) then qD 24 ((x.fdiv 65536).fdiv 256) else qD 16 (x.fdiv 65536) else bif decide (256≤x) then qD 8 (x.fdiv 256) else qD 0 x):=by kernel_rfl
theorem Xr:∀ i:Fin 256,aR tD i.val=(aU i.val:Int):=by decide +kernel
theorem xU (c y n:Nat) (G:y < 256) (M:c≤24) (N:y=0→c=0∧n=0) (h:na y (aU y)→na n (c+aU y)):qD c y=some (.val (.int .i64 (aU n))):=by
 have j:=Xr ⟨y,G⟩
 have j:aR tD y=(aU y:Int):=j
 have J:=Bo (n:=y) (m:=8) G
 have I:=(h (lh y)).uniq (lh n)
 unfold qD
 rw [rO,show ((y:Int) % 256)=(y:Int) by omega,Int.toNat_natCast,j,dT (show (0:Int)≤y by omega),dT (show (y:Int) < 256 by omega),aO (show -9223372036854775808≤(aU y:Int)∧(aU y:Int)≤9223372036854775807 by omega),aO (show -9223372036854775808≤(c:Int)+(aU y:Int)∧(c:Int)+(aU y:Int)≤9223372036854775807 by omega),← I,Int.natCast_add]
 rfl
def Fy (j:Sg) (args:List AV):Option (Bool×AV):=match args with | [.val (.int .u32 x)]=>some (bS x, .val (.int .i64 (j.bl x.toNat))) | _=>none
theorem Vt:Entry Tryz.prog 150 (Fy aa):=by
 refine aX (E:=m9) (u:=10) (d:=10) (aH _) aK mixed (by kernel_rfl) (fun args r h=> ?_)
 unfold Fy at h
 split at h
 ·rename_i x
  simp only [Option.some.injEq,Prod.mk.injEq] at h
  obtain ⟨M,rfl⟩:=h
  obtain ⟨n,O,rfl⟩:=jF M
  rw [Xq]
  show _=some (AV.val (.int .i64 ((aU (n:Int).toNat:Nat):Int)))
  rw [Int.toNat_natCast]
  have G:(n:Int).fdiv 65536=((n / 65536:Nat):Int):=gA n 65536
  have I:(n:Int).fdiv 256=((n / 256:Nat):Int):=gA n 256
  have J:((n / 65536:Nat):Int).fdiv 256=((n / 65536 / 256:Nat):Int):=gA _ 256
  rw [G,I,J]
  by_cases N:65536≤n
  ·rw [dT (show (65536:Int)≤n by omega)]
   by_cases j:256≤n / 65536
   ·rw [dT (show (256:Int)≤((n / 65536:Nat):Int) by omega)]
    exact xU 24 (n / 65536 / 256) n (by omega) (by omega) (by omega) (fun h=>xQ 24 (by omega) (by omega) h)
   ·rw [dF (show ¬ (256:Int)≤((n / 65536:Nat):Int) by omega)]
    exact xU 16 (n / 65536) n (by omega) (by omega) (by omega) (fun h=>xQ 16 (by omega) (by omega) h)
  ·rw [dF (show ¬ (65536:Int)≤n by omega)]
   by_cases j:256≤n
   ·rw [dT (show (256:Int)≤(n:Int) by omega)]
    exact xU 8 (n / 256) n (by omega) (by omega) (by omega) (fun h=>xQ 8 (by omega) (by omega) h)
   ·rw [dF (show ¬ (256:Int)≤(n:Int) by omega)]
    exact xU 0 n n (by omega) (by omega) (by omega) (fun h=>by rw [Nat.zero_add];exact h)
 ·cases h
def pT (j:Sg):FuncId→List AV→Option (Bool×AV):=an 150 (Fy j) aF
theorem abJ (G:Sg) (j:List Int):aD Tryz.prog ⟨pT G,ar,aq⟩ 10 10 157 [.lst false 129 j.length (ai j)]=
  (bif decide ((↑j.length:Int)=(0:Int)) then some (.val (.int .i64 0)) else (bif aj IntKind.i64 ((↑j.length:Int) - (1:Int)) then (bif aj IntKind.i64 ((32:Int)*((↑j.length:Int) - (1:Int))) then (bif aj IntKind.i64 ((↑j.length:Int) - (1:Int)) then (bif decide ((0:Int)≤(↑j.length:Int) - (1:Int))&&decide ((↑j.length:Int) - (1:Int) < (↑j.length:Int)) then (bif bS (j.getD ((↑j.length:Int) - (1:Int)).toNat (0:Int)) then (bif aj IntKind.i64 ((32:Int)*((↑j.length:Int) - (1:Int))+(↑(G.bl (j.getD ((↑j.length:Int) - (1:Int)).toNat (0:Int)).toNat):Int)) then some (.val (.int .i64 ((32:Int)*((↑j.length:Int) - (1:Int))+(↑(G.bl (j.getD ((↑j.length:Int) - (1:Int)).toNat (0:Int)).toNat):Int)))) else none) else none) else none) else none) else none) else none)):=by kernel_rfl
def FM (j:Sg) (args:List AV):Option (Bool×AV):=match args with | [.lst _ 129 m f]=>some (j.can m f, .val (.int .i64 (j.bl (j.num m f)))) | _=>none
theorem G3:bb Tryz.prog (pT aa):=(aH _).add Vt
theorem Bn (n m:Nat) (h:n < 2 ^ m):aa.bl n≤m:=Bo h
theorem V6:Entry Tryz.prog 157 (FM aa):=by
 refine im (E:= ⟨pT aa,ar,aq⟩) (u:=10) (d:=10) G3 aK (by kernel_rfl) (fun args r h=> ?_)
 unfold FM at h
 split at h
 ·rename_i fl m f
  simp only [Option.some.injEq,Prod.mk.injEq] at h
  obtain ⟨a4,rfl⟩:=h
  obtain ⟨a1,b0,a2,b1,I⟩:=so a4
  have a7:aD Tryz.prog ⟨pT aa,ar,aq⟩ 10 10 157 [.lst false 129 (rowOf m f).length (ai (rowOf m f))]=some (.val (.int .i64 (aa.bl (aa.num m f)))):=by
   rw [abJ]
   rw [I]
   generalize b2:aa.num m f=j at*
   have b3:(toL j).length≤17592186044416:=by rw [← I];exact a2
   by_cases J:j=0
   ·subst J
    rw [toL_zero]
    rfl
   ·have Z:toL j≠ []:=fun e=>J ((toL_nil_iff j).1 e)
    have b4:0 < (toL j).length:=List.length_pos_iff.2 Z
    have a3:((toL j).length:Int) - 1=(((toL j).length - 1:Nat):Int):=by omega
    have S:(toL j).length - 1 < (toL j).length:=by omega
    obtain ⟨t,ab,O,a5⟩:=cu (jK j) _ S
    have a6:0 < t:=by
     have:=GO j Z
     rw [List.getLast_eq_getElem,O] at this
     omega
    have a0:=mZ (toL j) ((toL j).length - 1) (by omega)
    rw [List.drop_eq_getElem_cons S,O,List.drop_of_length_le (by omega),bU,cp,cK,Int.toNat_natCast,Nat.mul_zero,Nat.add_zero] at a0
    have U:=dD (nH (jK j) ((toL j).length - 1))
    rw [List.length_take,Nat.min_eq_left (by omega)] at U
    have N:=Q4 a6 U
    rw [← a0] at N
    have M:=Bn t 32 ab
    have M:aU t≤32:=M
    rw [a3,Int.toNat_natCast,a5,dF (show ¬ ((toL j).length:Int)=0 by omega),bz _ (by omega),aO (show -9223372036854775808≤(32:Int)*(((toL j).length - 1:Nat):Int)∧(32:Int)*(((toL j).length - 1:Nat):Int)≤9223372036854775807 by omega),dT (show (0:Int)≤(((toL j).length - 1:Nat):Int) by omega),dT (show (((toL j).length - 1:Nat):Int) < ((toL j).length:Int) by omega),e9 ab,Int.toNat_natCast]
    show (bif aj .i64 ((32:Int)*(((toL j).length - 1:Nat):Int)+(aU t:Int)) then some (AV.val (.int .i64 ((32:Int)*(((toL j).length - 1:Nat):Int)+(aU t:Int)))) else none)=some (AV.val (.int .i64 (aU j:Int)))
    rw [aO (show -9223372036854775808≤(32:Int)*(((toL j).length - 1:Nat):Int)+(aU t:Int)∧(32:Int)*(((toL j).length - 1:Nat):Int)+(aU t:Int)≤9223372036854775807 by omega),N]
    simp
  refine ⟨_,_,a7,fun B w b5 G=> ?_,fun B w y G=>G⟩
  obtain ⟨y,zs,rfl,bx,bD⟩:=G
  exact ⟨y,_,rfl,kL a1 bx,bD⟩
 ·cases h
theorem Xl (j:Sg) (x:Int):aD Tryz.prog ⟨pT j,ar,aq⟩ 10 10 170 [.val (.int .u32 x)]=
  (bif bS x then (bif aj IntKind.i64 ((32:Int) - (↑(j.bl x.toNat):Int)) then some (.val (.int .i64 ((32:Int) - (↑(j.bl x.toNat):Int)))) else none) else none):=by kernel_rfl
theorem UF (x y z:Int):aD Tryz.prog m9 10 10 174 [.val (.int .u32 x), .val (.int .u32 y), .val (.int .u32 z)]=
  (bif !decide (z=(0:Int)) then (bif decide (z≤x) then none else (bif aj IntKind.u64 x then (bif aj IntKind.u64 y then (bif aj IntKind.u64 z then (bif decide (z=(0:Int)) then none else (bif aj IntKind.u64 z then (bif decide (z=(0:Int)) then none else some (.tup [(.val (.int .u32 (IntKind.u32.wrap (IntKind.u64.wrap ((bV BinOp.or IntKind.u64 (IntKind.u64.wrap (x*(4294967296:Int))) y).tdiv z))))),(.val (.int .u32 (IntKind.u32.wrap ((bV BinOp.or IntKind.u64 (IntKind.u64.wrap (x*(4294967296:Int))) y).tmod z))))])) else none)) else none) else none) else none)) else (bif aj IntKind.u64 x then (bif aj IntKind.u64 y then (bif aj IntKind.u64 z then (bif decide (z=(0:Int)) then none else (bif aj IntKind.u64 z then (bif decide (z=(0:Int)) then none else some (.tup [(.val (.int .u32 (IntKind.u32.wrap (IntKind.u64.wrap ((bV BinOp.or IntKind.u64 (IntKind.u64.wrap (x*(4294967296:Int))) y).tdiv z))))),(.val (.int .u32 (IntKind.u32.wrap ((bV BinOp.or IntKind.u64 (IntKind.u64.wrap (x*(4294967296:Int))) y).tmod z))))])) else none)) else none) else none) else none)):=by kernel_rfl
theorem QM (x y z:Int):aD Tryz.prog m9 10 10 175 [.val (.int .u32 x), .val (.int .u32 y), .val (.int .u32 z)]=
  (bif aj IntKind.u64 x then (bif aj IntKind.u64 y then (bif aj IntKind.u64 z then some (.tup [(.val (.int .u32 (IntKind.u32.wrap (IntKind.u64.wrap (IntKind.u64.wrap (x+y)+z))))),(.val (.int .u32 (IntKind.u32.wrap ((IntKind.u64.wrap (IntKind.u64.wrap (x+y)+z)).fdiv (4294967296:Int)))))]) else none) else none) else none):=by kernel_rfl
end
end Go.Proofs.YtamcpiicmfielaaGreat.L
