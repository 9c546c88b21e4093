import Derived.Test.YtamcpiicmfielaaGreatZV2
import Derived.Test.YtamcpiicmfielaaGreatZP
import Derived.Test.YtamcpiicmfielaaGreatProg
set_option linter.unusedVariables false
set_option linter.unusedSimpArgs false
namespace Go.Proofs.YtamcpiicmfielaaGreat.L
open Go Go.V Go.RowKit Go.Proofs.YtamcpiicmfielaaGreat.Sp Go.Proofs.YtamcpiicmfielaaGreat.F Go.Proofs.YtamcpiicmfielaaGreatW.PrintWords
open Go.Proofs (Tryz.prog)
noncomputable section
def br:Env:= ⟨fun _ _=>none,fun _=>false,fun _ _ _=>none⟩
noncomputable def lb (g:FuncId) (p:List Bool):Code:=match aH Tryz.prog g p with | some (.loop c)=>c | _=> .skip
theorem mixed:Tryz.prog.follows .mixedOrders=true:=by kernel_rfl
theorem QF (s:ByteArray):aG s ⟨#[]⟩=decide (s.toList= []):=by
 unfold aG
 rw [show (⟨#[]⟩:ByteArray).data.toList= [] from rfl]
 by_cases h:s.toList= []
 ·rw [decide_eq_true h,(toList_nil s).1 h];rfl
 ·rw [decide_eq_false h]
  have:s.data.toList≠ []:=fun e=>h ((toList_nil s).2 e)
  grind
theorem KL (s:ByteArray) (i:Nat) (h:i < s.size):aR s i=bt s (i:Int):=by
 have G:i < s.data.toList.length:=by simp_all
 rw [CJ G]
 unfold aR
 grind
theorem afA (s:ByteArray) (a b:Nat):eT s a b=s.extract a b:=by
 apply nY
 unfold eT
 simp_all
def nF (s:ByteArray):List AV:= .val (.string s) :: List.replicate 12 .any
theorem afG (s:ByteArray):aO Tryz.prog br 139 [0] (lb 139 [false,false,true]) [false,false,false,true] (nF s) []=
  (bif !aG s ⟨#[]⟩ then bif decide ((0:Int)≤0)&&decide ((0:Int) < s.size) then bif decide (aR s 0=0) then bif decide ((0:Int)≤1)&&decide ((1:Int)≤s.size) then some (.normal,nF (eT s 1 s.size), []) else none else some (.exit 0,nF s, []) else none else some (.exit 0,nF s, [])):=by kernel_rfl
theorem afD:aH Tryz.prog 139 [false,false,true]=some (.loop (lb 139 [false,false,true])):=by kernel_rfl
theorem afE:aH Tryz.prog 139 [false,false,false,true]=some (lb 139 [false,false,true]):=by kernel_rfl
theorem Gs {s:ByteArray} {e:Ex} {T:List AV} {H:Hp} (h:aO Tryz.prog br 139 [0] (lb 139 [false,false,true]) [false,false,false,true] (nF s) []=some (e,T,H)):V.Ends Tryz.prog false 0 0 (lb 139 [false,false,true]) (nF s) [] e T H:=
 bF (aJ _) aN mixed afE h
theorem QJ:∀ (k:Nat) (s r:ByteArray),cQ.l0 k s=some r→av Tryz.prog (lb 139 [false,false,true]) (nF s) [] (.exit 0) (nF r) []
 | 0,s,r,h=>by simp [cQ.l0] at h
 | k+1,s,r,h=>by
  rw [cQ.l0] at h
  have G:=afG s
  rw [QF] at G
  by_cases I:s.toList= []
  ·rw [if_pos I] at h
   cases h
   rw [decide_eq_true I] at G
   exact .last (Gs G) (by grind)
  ·rw [if_neg I] at h
   rw [decide_eq_false I] at G
   by_cases M:0 < (s.size:Int)
   ·rw [if_pos M] at h
    have e0:aR s 0=bt s 0:=KL s 0 (by omega)
    rw [e0] at G
    simp only [M,decide_true,Bool.not_false,cond,Int.le_refl,Bool.and_self] at G
    by_cases J:bt s 0=0
    ·rw [if_pos J] at h
     by_cases O:1≤(s.size:Int)
     ·rw [if_pos O] at h
      simp only [J,O,decide_true,show ((0:Int)≤1)=True from by simp,Bool.and_self,afA] at G
      exact .more (Gs G) (QJ k _ r h)
     grind
    ·rw [if_neg J] at h
     cases h
     simp only [J,decide_false] at G
     exact .last (Gs G) (by grind)
   grind
def QI (T:List AV) (H:Hp):Option (Bool×Ex×List AV×Hp):=
 match T,H with
 | [.val (.string s), .any, .any, .any, .any, .any, .any, .any, .any, .any, .any, .any, .any], []=>some (true, .exit 0,nF (aA (vS s)), [])
 | _,_=>none
def BZ:=mH 139 [false,false,true] [0] QI aq
theorem JY:aB Tryz.prog BZ:=aB.none.add afD (fun T H e J I h=>by
 unfold QI at h
 split at h
 ·cases h
  obtain ⟨k,G⟩:=afH _
  exact QJ k _ _ G
 ·cases h)
def Gq (args:List AV):Option (Bool×AV):=match args with | [.val (.string s)]=>some (true, .val (.string (aA (vS s)))) | _=>none
def IE:Env:= ⟨aK,fun _=>false,BZ⟩
theorem Ai:Entry Tryz.prog 139 Gq:=by
 refine bg (E:=IE) (u:=10) (d:=10) (aJ _) JY.ok mixed (by kernel_rfl) (fun args r h=> ?_)
 unfold Gq at h
 split at h
 ·rename_i s
  cases h
  have:aF Tryz.prog IE 10 10 139 [.val (.string s)]=some (.val (.string (aA (vS s)))):=by kernel_rfl
  exact this
 ·cases h
end
end Go.Proofs.YtamcpiicmfielaaGreat.L
namespace Go.Proofs.YtamcpiicmfielaaGreat.L
open Go Go.V Go.RowKit Go.Proofs.YtamcpiicmfielaaGreat.Sp Go.Proofs.YtamcpiicmfielaaGreat.F Go.Proofs.YtamcpiicmfielaaGreatW.PrintWords
open Go.Proofs (Tryz.prog)
noncomputable section
def numOf:AV→Int
 | .val (.int .u32 z)=>z
 | _=> -1
def rowOf (m:Nat) (f:Nat→Nat→AV):List Int:=(List.range m).map fun j=>numOf (f j 0)
def okB (m:Nat) (f:Nat→Nat→AV):Bool:=(rowOf m f).all fun z=>decide (0≤z)&&decide (z < 4294967296)
def lim (zs:List Int):Nat→Nat→AV:=fun j _=> .val (.int .u32 (zs.getD j 0))
def yr (n:Nat):AV:= .lst false 129 (toL n).length (lim (toL n))
theorem qq (zs:List Int) {m:Nat} (h:m≤zs.length):rowOf m (lim zs)=zs.take m:=by
 apply List.ext_getElem?
 intro i
 unfold rowOf lim
 rw [List.getElem?_map,List.getElem?_take]
 simp only [numOf]
 grind
theorem mq (n:Nat):rowOf (toL n).length (lim (toL n))=toL n:=by rw [qq _ (Nat.le_refl _),List.take_length]
theorem fe (m:Nat) (f:Nat→Nat→AV):okB m f=true↔aI (rowOf m f):=by
 unfold okB aI
 grind
theorem j8 (n:Nat):okB (toL n).length (lim (toL n))=true:=by rw [fe,mq];exact j9 n
theorem cA (m:Nat) (f:Nat→Nat→AV):(rowOf m f).length=m:=by simp [rowOf]
section
variable {P : Program} {α : Nat → Nat × Nat} {B : Nat → Prop} {w : World} {D : Nat → Prop} {x : Value}
theorem Pz {fl:Bool} {t:TypeId} {m:Nat} {f g:Nat→Nat→AV} (O:P.cellsOf t=1) (U:∀ j,j < m→f j 0=g j 0) (h:(AV.lst fl t m f).Rel P α B w D x):(AV.lst fl t m g).Rel P α B w D x:=by
 obtain ⟨A,cap,G,I,J,M⟩:=h
 refine ⟨A,cap,G,I,J, ?_⟩
 grind
theorem cE {fl:Bool} {t:TypeId} {m:Nat} {f:Nat→Nat→AV} (J:P.cellsOf t=1) (O:okB m f=true) (h:(AV.lst fl t m f).Rel P α B w D x):(AV.lst fl t m (lim (rowOf m f))).Rel P α B w D x:=by
 refine Pz J (fun j M=> ?_) h
 have G:j < (rowOf m f).length:=by rw [cA];exact M
 have I:=(fe m f).1 O _ (List.getElem_mem G)
 unfold lim
 rw [List.getD_eq_getElem?_getD,List.getElem?_eq_getElem G,Option.getD_some]
 have e:(rowOf m f)[j]=numOf (f j 0):=by simp [rowOf]
 rw [e] at I ⊢
 unfold numOf at I ⊢
 grind
end
theorem iI {E:Env} {g:FuncId} (U:bf Tryz.prog E.C) (Z:dh Tryz.prog E) (ab:fB Tryz.prog g=true) {u d:Nat} {f:List AV→Option (Bool×AV)}
  (h:∀ args r,f args=some (true,r)→∃ G v,aF Tryz.prog E u d g G=some v∧(∀ (B:Nat→Prop) (w:World) (I:List Value),aj Tryz.prog cw B w args bo I→aj Tryz.prog cw B w G bo I)∧(∀ (B:Nat→Prop) (w:World) (y:Value),v.Rel Tryz.prog cw B w bo y→r.Rel Tryz.prog cw B w bo y)):Entry Tryz.prog g f:=by
 intro args r aE B w a6 O a1
 obtain ⟨G,v,J,M,a7⟩:=h args r aE
 refine (rh U Z mixed ab J B w a6 O (M B w _ a1)).mono ?_
 grind
def nG (zs:List Int) (m:Nat):List AV:= .lst false 129 m (lim zs) :: List.replicate 20 .any
theorem agU:aH Tryz.prog 140 [false,false,true]=some (.loop (lb 140 [false,false,true])):=by kernel_rfl
theorem agW:aH Tryz.prog 140 [false,false,false,true]=some (lb 140 [false,false,true]):=by kernel_rfl
theorem QZ (zs:List Int) (m:Nat):aO Tryz.prog br 140 [0] (lb 140 [false,false,true]) [false,false,false,true] (nG zs m) []=
  (bif decide ((0:Int) < m) then bif ai .i64 ((m:Int) - 1) then bif decide (0≤(m:Int) - 1)&&decide ((m:Int) - 1 < m) then bif decide (zs.getD ((m:Int) - 1).toNat 0=0) then bif ai .i64 ((m:Int) - 1) then bif decide (0≤(m:Int) - 1)&&decide ((m:Int) - 1≤m) then some (.normal,nG zs ((m:Int) - 1).toNat, []) else none else none else some (.exit 0,nG zs m, []) else none else none else some (.exit 0,nG zs m, [])):=by kernel_rfl
theorem H7 {zs:List Int} {m:Nat} {e:Ex} {T:List AV} {H:Hp} (h:aO Tryz.prog br 140 [0] (lb 140 [false,false,true]) [false,false,false,true] (nG zs m) []=some (e,T,H)):V.Ends Tryz.prog false 0 0 (lb 140 [false,false,true]) (nG zs m) [] e T H:=
 bF (aJ _) aN mixed agW h
theorem fx {z:Int} (G: -9223372036854775808≤z) (I:z≤9223372036854775807):ai .i64 z=true:=by
 unfold ai
 rw [Bool.and_eq_true,decide_eq_true_eq,decide_eq_true_eq]
 exact ⟨G,I⟩
def lI (zs:List Int):Nat→Nat
 | 0=>0
 | m+1=>if zs.getD m 0=0 then lI zs m else m+1
theorem QY (zs:List Int):∀ (m:Nat),m≤140737488355328→av Tryz.prog (lb 140 [false,false,true]) (nG zs m) [] (.exit 0) (nG zs (lI zs m)) []
 | 0,_=> .last (H7 (by rw [QZ];rfl)) (by grind)
 | m+1,I=>by
  have G:=QZ zs (m+1)
  have e1:(((m+1:Nat):Int) - 1)=(m:Int):=by omega
  rw [e1,fx (by omega) (by omega),decide_eq_true (show (0:Int) < ((m+1:Nat):Int) by omega),decide_eq_true (show (0:Int)≤(m:Int) by omega),decide_eq_true (show (m:Int) < ((m+1:Nat):Int) by omega),decide_eq_true (show (m:Int)≤((m+1:Nat):Int) by omega),Int.toNat_natCast] at G
  unfold lI
  by_cases h:zs.getD m 0=0
  ·rw [if_pos h]
   rw [decide_eq_true h] at G
   exact .more (H7 G) (QY zs m (by omega))
  ·rw [if_neg h]
   rw [decide_eq_false h] at G
   exact .last (H7 G) (by grind)
theorem QV (zs:List Int):∀ m,lI zs m≤m
 | 0=>Nat.le_refl _
 | m+1=>by
  unfold lI
  split
  ·exact Nat.le_trans (QV zs m) (Nat.le_succ m)
  grind
theorem QW {zs:List Int} (G:aI zs):∀ m,m≤zs.length→zs.take (lI zs m)=toL (vL (zs.take m))
 | 0,_=>by rw [lI,List.take_zero,cF,toL_zero]
 | m+1,I=>by
  have M:m < zs.length:=I
  have ab:zs.getD m 0=zs[m]:=by grind
  have J:zs.take (m+1)=zs.take m ++ [zs[m]]:=by simp_all
  unfold lI
  by_cases h:zs.getD m 0=0
  ·rw [if_pos h,QW G m (by omega),J,mC,show zs[m]=0 by grind]
   simp [cj,cF]
  ·rw [if_neg h]
   have O:aI (zs.take (m+1)):=fun x U=>G x (List.mem_of_mem_take U)
   refine Dn O (fun _=> ?_)
   rw [List.length_take,Nat.min_eq_left I,J,mC,List.length_take,Nat.min_eq_left (by omega),cj,cF]
   have Z:=G _ (List.getElem_mem M)
   have:1≤(zs[m]).toNat:=by
    grind
   simp only [Nat.mul_zero,Nat.add_zero,Nat.add_sub_cancel]
   have:=Nat.mul_le_mul_left (4294967296 ^ m) this
   omega
def QU (T:List AV) (H:Hp):Option (Bool×Ex×List AV×Hp):=
 match T,H with
 | [.lst false 129 m f, .any, .any, .any, .any, .any, .any, .any, .any, .any, .any, .any, .any, .any, .any, .any, .any, .any, .any, .any, .any], []=>some (okB m f&&decide (m≤140737488355328), .exit 0,nG (rowOf m f) (lI (rowOf m f) m), [])
 | _,_=>none
theorem cy:Tryz.prog.cellsOf 129=1:=by kernel_rfl
def JZ:=mH 140 [false,false,true] [0] QU BZ
theorem RM:aB Tryz.prog JZ:=JY.nT agU (fun T H e Z U h=>by
 unfold QU at h
 split at h
 ·rename_i m f
  simp only [Option.some.injEq,Prod.mk.injEq,Bool.and_eq_true,decide_eq_true_eq] at h
  obtain ⟨⟨M,J⟩,rfl,rfl,rfl⟩:=h
  refine Ends.pre (QY (rowOf m f) m J).ends (fun α B w D ab O=> ?_)
  obtain ⟨y,zs,rfl,G,I⟩:=O
  exact ⟨y,zs,rfl,cE cy M G,I⟩
 ·cases h)
def Bb:Env:= ⟨aw 139 Gq aK,fun _=>false,JZ⟩
theorem RE:bf Tryz.prog Bb.C:=(aJ _).add Ai
def QT (args:List AV):Option (Bool×AV):=match args with | [.lst fl 129 m f]=>some (okB m f&&decide (m≤140737488355328),yr (vL (rowOf m f))) | _=>none
theorem agV (zs:List Int) (m:Nat):aF Tryz.prog Bb 10 10 140 [.lst false 129 m (lim zs)]=(bif okB m (lim zs)&&decide (m≤140737488355328) then some (.lst false 129 (lI (rowOf m (lim zs)) m) (lim (rowOf m (lim zs)))) else none):=by kernel_rfl
theorem QX:Entry Tryz.prog 140 QT:=by
 refine iI (E:=Bb) (u:=10) (d:=10) RE RM.ok (by kernel_rfl) (fun args r h=> ?_)
 unfold QT at h
 split at h
 ·rename_i fl m f
  simp only [Option.some.injEq,Prod.mk.injEq,Bool.and_eq_true,decide_eq_true_eq] at h
  obtain ⟨⟨J,aE⟩,rfl⟩:=h
  have a6:=cA m f
  have M:=(fe m f).1 J
  have O:rowOf m (lim (rowOf m f))=rowOf m f:=by rw [qq _ (by omega),List.take_of_length_le (by omega)]
  have I:=agV (rowOf m f) m
  rw [O,show okB m (lim (rowOf m f))=true by rw [fe,O];exact M,decide_eq_true aE] at I
  refine ⟨_,_,I,fun B w a7 G=> ?_,fun B w y G=> ?_⟩
  ·obtain ⟨y,zs,rfl,Z,ab⟩:=G
   exact ⟨y,zs,rfl,uJ (cE cy J Z),ab⟩
  ·have e:=QW M m (by omega)
   rw [show (rowOf m f).take m=rowOf m f from List.take_of_length_le (by omega)] at e
   have U:lI (rowOf m f) m=(toL (vL (rowOf m f))).length:=by
    rw [← e,List.length_take,Nat.min_eq_left (Nat.le_trans (QV _ _) (by omega))]
   unfold yr
   rw [← U]
   refine Pz cy (fun j a1=> ?_) G
   unfold lim
   grind
 ·cases h
end
end Go.Proofs.YtamcpiicmfielaaGreat.L
namespace Go.Proofs.YtamcpiicmfielaaGreat.L
open Go Go.V Go.RowKit Go.Proofs.YtamcpiicmfielaaGreat.Sp Go.Proofs.YtamcpiicmfielaaGreat.F Go.Proofs.YtamcpiicmfielaaGreatW.PrintWords
open Go.Proofs (Tryz.prog)
noncomputable section
def qx (zs us:List Int) (m:Nat) (i:Int):List AV:=ar 43 [(0, .lst false 129 m (lim zs)),(1, .lst false 129 m (lim us)),(5, .val (.int .i64 i))]
theorem UU:aH Tryz.prog 107 [false,true,false,true,true]=some (.loop (lb 107 [false,true,false,true,true])):=by kernel_rfl
theorem UW:aH Tryz.prog 107 [false,false,true,false,true,true]=some (lb 107 [false,true,false,true,true]):=by kernel_rfl
theorem K7 (zs us:List Int) (m:Nat) (i:Int):aO Tryz.prog br 107 [0,1,4,5] (lb 107 [false,true,false,true,true]) [false,false,true,false,true,true] (qx zs us m i) []=
  (bif decide (0≤i) then bif decide (0≤i)&&decide (i < m) then bif decide (0≤i)&&decide (i < m) then bif decide (zs.getD i.toNat 0 < us.getD i.toNat 0) then some (.ret,ar 43 [(0, .lst false 129 m (lim zs)),(1, .lst false 129 m (lim us)),(4, .val (.int .i64 (-1))),(5, .val (.int .i64 i))], [])
   else bif decide (0≤i)&&decide (i < m) then bif decide (0≤i)&&decide (i < m) then bif decide (us.getD i.toNat 0 < zs.getD i.toNat 0) then some (.ret,ar 43 [(0, .lst false 129 m (lim zs)),(1, .lst false 129 m (lim us)),(4, .val (.int .i64 1)),(5, .val (.int .i64 i))], [])
   else bif ai .i64 (i - 1) then some (.normal,qx zs us m (i - 1), []) else none else none else none else none else none else some (.exit 0,qx zs us m i, [])):=by kernel_rfl
theorem xO {zs us:List Int} {m:Nat} {i:Int} {e:Ex} {T:List AV} {H:Hp} (h:aO Tryz.prog br 107 [0,1,4,5] (lb 107 [false,true,false,true,true]) [false,false,true,false,true,true] (qx zs us m i) []=some (e,T,H)):V.Ends Tryz.prog false 0 0 (lb 107 [false,true,false,true,true]) (qx zs us m i) [] e T H:=
 bF (aJ _) aN mixed UW h
def gQ (zs us:List Int):Nat→Int
 | 0=>0
 | j+1=>if zs.getD j 0 < us.getD j 0 then -1 else if us.getD j 0 < zs.getD j 0 then 1 else gQ zs us j
def K3 (c:Int):Ex:=if c=0 then .exit 0 else .ret
def K4 (c:Int):List AV:=if c=0 then ar 43 [] else ar 43 [(4, .val (.int .i64 c))]
theorem K6 (zs us:List Int) (m:Nat):∀ (d:Nat),d≤m→m≤140737488355328→av Tryz.prog (lb 107 [false,true,false,true,true]) (qx zs us m ((d:Int) - 1)) [] (K3 (gQ zs us d)) (K4 (gQ zs us d)) []
 | 0,_,_=> .last (yu (keep:= []) (xO (by rw [K7];rfl)) (by kernel_rfl)) (by intro h;cases h)
 | d+1,O,M=>by
  have G:=K7 zs us m (d:Int)
  rw [decide_eq_true (show (0:Int)≤(d:Int) by omega),decide_eq_true (show (d:Int) < (m:Int) by omega),fx (by omega) (by omega),Int.toNat_natCast] at G
  rw [show (((d+1:Nat):Int) - 1)=(d:Int) by omega]
  unfold gQ
  by_cases I:zs.getD d 0 < us.getD d 0
  ·rw [if_pos I]
   rw [decide_eq_true I] at G
   exact .last (yu (keep:= [4]) (xO G) (by kernel_rfl)) (by intro h;cases h)
  ·rw [if_neg I]
   rw [decide_eq_false I] at G
   by_cases J:us.getD d 0 < zs.getD d 0
   ·rw [if_pos J]
    rw [decide_eq_true J] at G
    exact .last (yu (keep:= [4]) (xO G) (by kernel_rfl)) (by intro h;cases h)
   ·rw [if_neg J]
    rw [decide_eq_false J] at G
    exact .more (xO G) (K6 zs us m d (by omega) M)
theorem K2 {zs us:List Int} (J:aI zs) (G:aI us):∀ d,d≤zs.length→d≤us.length→gQ zs us d=cz (vL (zs.take d)) (vL (us.take d))
 | 0,_,_=>by simp [gQ,cz]
 | d+1,aE,a1=>by
  have Z:zs.getD d 0=zs[d]:=by grind
  have ab:us.getD d 0=us[d]:=by grind
  have a7:zs.take (d+1)=zs.take d ++ [zs[d]]:=by simp_all
  have bx:us.take (d+1)=us.take d ++ [us[d]]:=by simp_all
  have M:=dP (l:=zs.take d) (fun x I=>J x (List.mem_of_mem_take I))
  have O:=dP (l:=us.take d) (fun x I=>G x (List.mem_of_mem_take I))
  have a6:=K2 J G d (by omega) (by omega)
  have b0:=J _ (List.getElem_mem aE)
  have b1:=G _ (List.getElem_mem a1)
  rw [List.length_take,Nat.min_eq_left (by omega)] at M O
  unfold gQ
  rw [Z,ab,a7,bx,mC,mC,List.length_take,List.length_take,Nat.min_eq_left (by omega),Nat.min_eq_left (by omega),cj,cj,cF,a6]
  generalize vL (zs.take d)=a at*
  generalize vL (us.take d)=b at*
  generalize zs[d]=x at*
  generalize us[d]=y at*
  simp only [Nat.mul_zero,Nat.add_zero]
  unfold cz
  by_cases U:x < y
  ·have:=Nat.mul_le_mul_left (4294967296 ^ d) (show x.toNat+1≤y.toNat by omega)
   grind
  ·rw [if_neg U]
   by_cases bD:y < x
   ·have:=Nat.mul_le_mul_left (4294967296 ^ d) (show y.toNat+1≤x.toNat by omega)
    grind
   grind
def dS (m:Nat) (f:Nat→Nat→AV):Bool:=okB m f&&decide (rowOf m f=toL (vL (rowOf m f)))
theorem xH (n:Nat):dS (toL n).length (lim (toL n))=true:=by
 unfold dS
 rw [j8,mq,cY]
 simp
def tH (w:Bool) (m n:Nat) (f g:Nat→Nat→AV) (i:Int):Bool:=
 okB m f&&okB n g&&decide (m=n)&&decide (-1≤i)&&decide (i < m)&&decide (m≤140737488355328)&&(decide (gQ (rowOf m f) (rowOf n g) (i+1).toNat=0)==w)
def CV (w:Bool) (T:List AV) (H:Hp):Option (Bool×Ex×List AV×Hp):=
 match al T 0,al T 1,al T 5,H with
 | .lst false 129 m f, .lst false 129 n g, .val (.int .i64 i), []=>bif T.length==43 then some (tH w m n f g i,bif w then .exit 0 else .ret,bif w then ar 43 [] else ar 43 [(4, .val (.int .i64 (gQ (rowOf m f) (rowOf n g) (i+1).toNat)))], []) else none
 | _,_,_,_=>none
theorem US (w:Bool) (T:List AV) (H:Hp) (e:Ex) (M:List AV) (J:Hp) (h:CV w T H=some (true,e,M,J)):V.Ends Tryz.prog false 0 0 (.loop (lb 107 [false,true,false,true,true])) T H e M J:=by
 unfold CV at h
 split at h
 ·rename_i m f n g i ab aE bD
  rw [Bool.cond_eq_ite] at h
  split at h
  ·rename_i U
   rw [beq_iff_eq] at U
   simp only [Option.some.injEq,Prod.mk.injEq] at h
   obtain ⟨I,rfl,rfl,rfl⟩:=h
   unfold tH at I
   simp only [Bool.and_eq_true,decide_eq_true_eq] at I
   obtain ⟨⟨⟨⟨⟨⟨k1,a7⟩,rfl⟩,b0⟩,b1⟩,bx⟩,b2⟩:=I
   have O:=(K6 (rowOf m f) (rowOf m g) m (i+1).toNat (by omega) bx).ends
   rw [show (((i+1).toNat:Nat):Int) - 1=i by omega] at O
   have a1:V.Ends Tryz.prog false 0 0 (.loop (lb 107 [false,true,false,true,true])) (qx (rowOf m f) (rowOf m g) m i) [] (bif w then .exit 0 else .ret) (bif w then ar 43 [] else ar 43 [(4, .val (.int .i64 (gQ (rowOf m f) (rowOf m g) (i+1).toNat)))]) []:=by
    generalize gQ (rowOf m f) (rowOf m g) (i+1).toNat=c at*
    unfold K3 K4 at O
    grind
   refine Ends.pre a1 (fun α B w D b3 a6=>bq U (fun p Z y G=> ?_) a6)
   simp only [List.mem_cons,List.not_mem_nil,or_false] at Z
   rcases Z with rfl | rfl | rfl
   ·rw [ab] at G;exact cE cy k1 G
   ·rw [aE] at G;exact cE cy a7 G
   grind
  ·cases h
 ·cases h
def Bc (w:Bool):Env:= ⟨aK,fun _=>false,mH 107 [false,true,false,true,true] [0,1,5] (CV w) aq⟩
theorem RF (w:Bool):dh Tryz.prog (Bc w):=(aB.none.nT UU (US w)).ok
theorem K5 (w:Bool) (zs us:List Int) (m n:Nat):aF Tryz.prog (Bc w) 10 10 107 [.lst false 129 m (lim zs), .lst false 129 n (lim us)]=
  (bif !decide ((m:Int)=n) then bif decide ((m:Int) < n) then some (.val (.int .i64 (-1))) else some (.val (.int .i64 1)) else bif ai .i64 ((m:Int) - 1) then bif tH w m n (lim zs) (lim us) ((m:Int) - 1) then (match w with | true=>some (.val (.int .i64 0)) | false=>some (.val (.int .i64 (gQ (rowOf m (lim zs)) (rowOf n (lim us)) ((m:Int) - 1+1).toNat)))) else none else none):=by
 cases w <;> kernel_rfl
def La (args:List AV):Option (Bool×AV):=match args with
 | [.lst _ 129 m f, .lst _ 129 n g]=>some (dS m f&&dS n g&&decide (m≤140737488355328)&&decide (n≤140737488355328), .val (.int .i64 (cz (vL (rowOf m f)) (vL (rowOf n g)))))
 | _=>none
theorem Lb:Entry Tryz.prog 107 La:=by
 intro args r I
 unfold La at I
 split at I
 ·rename_i c5 m f c6 n g
  simp only [Option.some.injEq,Prod.mk.injEq,Bool.and_eq_true,decide_eq_true_eq] at I
  obtain ⟨⟨⟨⟨J,M⟩,c7⟩,dx⟩,rfl⟩:=I
  unfold dS at J M
  rw [Bool.and_eq_true,decide_eq_true_eq] at J M
  have l1:=cA m f
  have l2:=cA n g
  have ab:rowOf m (lim (rowOf m f))=rowOf m f:=by rw [qq _ (by omega),List.take_of_length_le (by omega)]
  have aE:rowOf n (lim (rowOf n g))=rowOf n g:=by rw [qq _ (by omega),List.take_of_length_le (by omega)]
  have U:=(fe m f).1 J.1
  have Z:=(fe n g).1 M.1
  have c0:okB m (lim (rowOf m f))=true:=by rw [fe,ab];exact U
  have c3:okB n (lim (rowOf n g))=true:=by rw [fe,aE];exact Z
  have b3:∃ w v,aF Tryz.prog (Bc w) 10 10 107 [.lst false 129 m (lim (rowOf m f)), .lst false 129 n (lim (rowOf n g))]=some v∧v= .val (.int .i64 (cz (vL (rowOf m f)) (vL (rowOf n g)))):=by
   by_cases bD:m=n
   ·subst bD
    have a7:=K2 U Z m (by omega) (by omega)
    rw [List.take_of_length_le (by omega),List.take_of_length_le (by omega)] at a7
    have G:=K5 (decide (gQ (rowOf m f) (rowOf m g) m=0)) (rowOf m f) (rowOf m g) m m
    have e1:((m:Int) - 1+1).toNat=m:=by omega
    have bx:tH (decide (gQ (rowOf m f) (rowOf m g) m=0)) m m (lim (rowOf m f)) (lim (rowOf m g)) ((m:Int) - 1)=true:=by
     unfold tH
     grind
    rw [bx,ab,aE,e1,fx (by omega) (by omega)] at G
    grind
   ·have G:=K5 true (rowOf m f) (rowOf n g) m n
    rw [decide_eq_false (show ¬ (m:Int)=n by omega)] at G
    have e1:(toL (vL (rowOf m f))).length=m:=by grind
    have c4:(toL (vL (rowOf n g))).length=n:=by grind
    by_cases O:(m:Int) < n
    ·rw [decide_eq_true O] at G
     refine ⟨_,_,G, ?_⟩
     have:=MS (show (toL (vL (rowOf m f))).length < (toL (vL (rowOf n g))).length by omega)
     have a1:=lX (Nat.le_refl (toL (vL (rowOf m f))).length)
     unfold cz
     grind
    ·rw [decide_eq_false O] at G
     refine ⟨_,_,G, ?_⟩
     have:=MS (show (toL (vL (rowOf n g))).length < (toL (vL (rowOf m f))).length by omega)
     have a1:=lX (Nat.le_refl (toL (vL (rowOf n g))).length)
     unfold cz
     grind
  obtain ⟨w,v,b0,rfl⟩:=b3
  intro B b6 b7 a6 b1
  refine rh (aJ _) (RF w) mixed (by kernel_rfl) b0 B b6 b7 a6 ?_
  obtain ⟨y,zs,b2,q1,q2⟩:=b1
  obtain ⟨ch,ct,rfl,b4,b5⟩:=q2
  rw [b2]
  exact ⟨y,_,rfl,uJ (cE cy J.1 q1),ch,ct,rfl,uJ (cE cy M.1 b4),b5⟩
 ·cases I
end
end Go.Proofs.YtamcpiicmfielaaGreat.L
namespace Go.Proofs.YtamcpiicmfielaaGreat.L
open Go Go.V Go.RowKit Go.Proofs.YtamcpiicmfielaaGreat.Sp Go.Proofs.YtamcpiicmfielaaGreat.F Go.Proofs.YtamcpiicmfielaaGreatW.PrintWords
open Go.Proofs (Tryz.prog)
noncomputable section
def oN (s:ByteArray) (m:Nat) (n i:Int):List AV:=ar 41 [(0, .val (.string s)),(3, .sl false 129 0 0 m),(15, .val (.int .i64 n)),(16, .val (.int .i64 i))]
def ov (zs:List Int):Hp:= [.row (.ints .u32 zs) 129 .live]
abbrev kf:List Bool:= [false,true,false,true,true,true]
theorem aak:aH Tryz.prog 106 kf=some (.loop (lb 106 kf)):=by kernel_rfl
theorem aam:aH Tryz.prog 106 (false :: kf)=some (lb 106 kf):=by kernel_rfl
theorem M9 (s:ByteArray) (zs:List Int) (m:Nat) (n i:Int):aO Tryz.prog br 106 [0,3,15,16] (lb 106 kf) (false :: kf) (oN s m n i) (ov zs)=
  (bif decide (i < n) then bif ai .i64 ((s.size:Int) - 1) then bif ai .i64 ((s.size:Int) - 1 - i) then bif ai .i64 (i.tdiv 4) then
   bif decide (0≤i.tdiv 4)&&decide (i.tdiv 4 < m) then bif decide (0+(i.tdiv 4).toNat*1 < zs.length) then bif decide (0≤(s.size:Int) - 1 - i)&&decide ((s.size:Int) - 1 - i < s.size) then
   bif ai .u32 (aR s ((s.size:Int) - 1 - i).toNat) then bif ai .i64 (8*i.tmod 4) then bif decide (8*i.tmod 4 < 0) then none else
   bif decide (0≤i.tdiv 4)&&decide (i.tdiv 4 < m) then bif decide (0+(i.tdiv 4).toNat*1 < zs.length) then bif ai .i64 (i+1) then
   some (.normal,oN s m n (i+1),ov (zs.set (0+(i.tdiv 4).toNat*1) (cm .or .u32 (zs.getD (0+(i.tdiv 4).toNat*1) 0) (IntKind.u32.wrap (aR s ((s.size:Int) - 1 - i).toNat*2 ^ min (8*i.tmod 4).toNat IntKind.u32.bits)))))
   else none else none else none else none else none else none else none else none else none else none else none else some (.exit 0,oN s m n i,ov zs)):=by kernel_rfl
theorem Nb {s:ByteArray} {zs:List Int} {m:Nat} {n i:Int} {e:Ex} {T:List AV} {H:Hp} (h:aO Tryz.prog br 106 [0,3,15,16] (lb 106 kf) (false :: kf) (oN s m n i) (ov zs)=some (e,T,H)):V.Ends Tryz.prog false 0 0 (lb 106 kf) (oN s m n i) (ov zs) e T H:=
 bF (aJ _) aN mixed aam h
def uG (s:ByteArray) (i:Nat) (out:List Int):List Int:=out.set (i / 4) (cm .or .u32 (out.getD (i / 4) 0) (IntKind.u32.wrap (aR s (s.size - 1 - i)*2 ^ min (8*(i % 4)) IntKind.u32.bits)))
def pW (s:ByteArray):Nat→Nat→List Int→List Int
 | 0,_,out=>out
 | d+1,i,out=>pW s d (i+1) (uG s i out)
theorem lQ (s:ByteArray) (i:Nat):0≤aR s i∧aR s i < 256:=by
 unfold aR
 have:=(s.data.toList.getD i 0).toNat_lt
 omega
theorem M8 (s:ByteArray) (m:Nat) (Z:s.size≤140737488355328) (U:m=(s.size+3) / 4):∀ (d i:Nat) (out:List Int),i+d=s.size→out.length=m→av Tryz.prog (lb 106 kf) (oN s m s.size i) (ov out) (.exit 0) (oN s m s.size s.size) (ov (pW s d i out))
 | 0,i,out,hi,O=>by
  have G:=M9 s out m s.size i
  have:i=s.size:=by omega
  subst this
  rw [decide_eq_false (show ¬ ((s.size:Int) < s.size) by omega)] at G
  exact .last (Nb G) (by grind)
 | d+1,i,out,hi,O=>by
  have G:=M9 s out m s.size i
  have e1:(i:Int).tdiv 4=((i / 4:Nat):Int):=DT i
  have I:(i:Int).tmod 4=((i % 4:Nat):Int):=DU i
  have J:(s.size:Int) - 1 - i=((s.size - 1 - i:Nat):Int):=by omega
  have M:8*((i % 4:Nat):Int)=((8*(i % 4):Nat):Int):=by omega
  have hb:=lQ s (s.size - 1 - i)
  rw [e1,I,J,M,Int.toNat_natCast,Int.toNat_natCast,Int.toNat_natCast,Nat.zero_add,Nat.mul_one] at G
  rw [decide_eq_true (show (i:Int) < s.size by omega),fx (show -9223372036854775808≤(s.size:Int) - 1 by omega) (by omega),fx (show -9223372036854775808≤((s.size - 1 - i:Nat):Int) by omega) (by omega),fx (show -9223372036854775808≤((i / 4:Nat):Int) by omega) (by omega),fx (show -9223372036854775808≤((8*(i % 4):Nat):Int) by omega) (by omega),fx (show -9223372036854775808≤(i:Int)+1 by omega) (by omega),
   decide_eq_true (show (0:Int)≤((i / 4:Nat):Int) by omega),decide_eq_true (show ((i / 4:Nat):Int) < (m:Int) by omega),decide_eq_true (show i / 4 < out.length by omega),decide_eq_true (show (0:Int)≤((s.size - 1 - i:Nat):Int) by omega),decide_eq_true (show ((s.size - 1 - i:Nat):Int) < (s.size:Int) by omega),decide_eq_false (show ¬ (((8*(i % 4):Nat):Int) < 0) by omega),
   show ai .u32 (aR s (s.size - 1 - i))=true by unfold ai;rw [Bool.and_eq_true,decide_eq_true_eq,decide_eq_true_eq];exact ⟨hb.1,by have:IntKind.u32.max=4294967295:=rfl;omega⟩] at G
  refine .more (Nb G) ?_
  have:=M8 s m Z U d (i+1) (uG s i out) (by omega) (by unfold uG;grind)
  rw [show ((i+1:Nat):Int)=(i:Int)+1 by omega] at this
  exact this
theorem M7 (s:ByteArray) (J:s.size≤140737488355328):∀ (d k i:Nat) (out:List Int),i+d=s.size→d < k→out.length=(s.size+3) / 4→dv.l0 k s out s.size i=some (pW s d i out)
 | 0,k,i,out,hi,G,I=>by
  obtain ⟨k,rfl⟩:∃ m,k=m+1:= ⟨k - 1,by omega⟩
  rw [dv.l0,if_neg (by omega)]
  rfl
 | d+1,k,i,out,hi,G,I=>by
  obtain ⟨k,rfl⟩:∃ m,k=m+1:= ⟨k - 1,by omega⟩
  rw [dv.l0,DT,DU,MO i (by omega),ld1 s.size i (by omega) (by omega),MP,MQ i (by omega)]
  rw [if_pos (by omega),if_pos (by omega),if_pos (by omega),if_pos (by omega),if_pos (by omega),if_pos (by omega)]
  have hb:=KL s (s.size - 1 - i) (by omega)
  have O:=lQ s (s.size - 1 - i)
  rw [← hb,show aR s (s.size - 1 - i) % 4294967296=aR s (s.size - 1 - i) by omega]
  have M:out.set (((i / 4:Nat):Int)).toNat (Go.bits .or .u32 (rd out ((i / 4:Nat):Int)) (shl .u32 (aR s (s.size - 1 - i)) ((8*(i % 4):Nat):Int)))=uG s i out:=by
   unfold uG shl rd
   rw [Int.toNat_natCast,Int.toNat_natCast]
   rfl
  rw [M]
  exact M7 s J d k (i+1) _ (by omega) (by omega) (by grind)
theorem aaj (s:ByteArray) (G:s.size≤140737488355328):∃ r,pW s s.size 0 (List.replicate ((s.size+3) / 4) 0)=r∧aI r∧r.length=(s.size+3) / 4∧vL r=vS s:=by
 obtain ⟨r,I,J,M,O⟩:=aan s G s.size (s.size+1) 0 (List.replicate ((s.size+3) / 4) 0) (by omega) (by omega) (lv _) (by simp) (by
  rw [Ic,Nat.sub_zero,List.drop_of_length_le (by simp_all)];rfl)
 have:=M7 s G s.size (s.size+1) 0 (List.replicate ((s.size+3) / 4) 0) (by omega) (by omega) (by simp)
 grind
def uH (s:ByteArray) (m:Nat) (n:Int) (zs:List Int):Bool:=decide (n=s.size)&&decide (s.size≤140737488355328)&&decide (m=(s.size+3) / 4)&&decide (zs.length=m)
def D8 (T:List AV) (H:Hp):Option (Bool×Ex×List AV×Hp):=
 match al T 0,al T 3,al T 15,al T 16,H with
 | .val (.string s), .sl false 129 0 0 m, .val (.int .i64 n), .val (.int .i64 0), [.row (.ints .u32 zs) 129 .live]=>bif T.length==41 then some (uH s m n zs, .exit 0,oN s m s.size s.size,ov (pW s s.size 0 zs)) else none
 | _,_,_,_,_=>none
theorem aai (T:List AV) (H:Hp) (e:Ex) (J:List AV) (I:Hp) (h:D8 T H=some (true,e,J,I)):V.Ends Tryz.prog false 0 0 (.loop (lb 106 kf)) T H e J I:=by
 unfold D8 at h
 split at h
 ·rename_i s m n zs aE a7 a1 a6
  rw [Bool.cond_eq_ite] at h
  split at h
  ·rename_i M
   rw [beq_iff_eq] at M
   simp only [Option.some.injEq,Prod.mk.injEq] at h
   obtain ⟨G,rfl,rfl,rfl⟩:=h
   unfold uH at G
   simp only [Bool.and_eq_true,decide_eq_true_eq] at G
   obtain ⟨⟨⟨rfl,U⟩,Z⟩,ab⟩:=G
   refine Ends.pre (M8 s m U Z s.size 0 zs (by omega) ab).ends (fun α B w D b0 O=>bq M (fun p bx y bD=> ?_) O)
   grind
  ·cases h
 ·cases h
def Gr (G:ByteArray→ByteArray) (args:List AV):Option (Bool×AV):=match args with | [.val (.string s)]=>some (true, .val (.string (G s))) | _=>none
def w5 (G:ByteArray→ByteArray):Env:= ⟨aw 139 (Gr G) aK,fun _=>false,mH 106 kf [0,3,15,16] D8 aq⟩
theorem RG:bf Tryz.prog (w5 fun s=>aA (vS s)).C:=(aJ _).add Ai
theorem RH (G:ByteArray→ByteArray):dh Tryz.prog (w5 G):=(aB.none.nT aak aai).ok
theorem aal (G:ByteArray→ByteArray) (s:ByteArray):aF Tryz.prog (w5 G) 10 10 106 [.val (.string s)]=
  (bif ai .i64 (((G s).size:Int)+4) then bif ai .i64 (((G s).size:Int)+4 - 1) then bif ai .i64 ((((G s).size:Int)+4 - 1).tdiv 4) then
   bif decide (0≤(((G s).size:Int)+4 - 1).tdiv 4)&&decide ((((G s).size:Int)+4 - 1).tdiv 4≤(((G s).size:Int)+4 - 1).tdiv 4)&&decide ((4:Int)*(((G s).size:Int)+4 - 1).tdiv 4≤281474976710656)&&decide ((((G s).size:Int)+4 - 1).tdiv 4≤9223372036854775807) then
   bif uH (G s) ((((G s).size:Int)+4 - 1).tdiv 4).toNat ((G s).size:Int) (List.replicate ((((G s).size:Int)+4 - 1).tdiv 4).toNat 0) then
   bif decide (0+((((G s).size:Int)+4 - 1).tdiv 4).toNat*1≤(pW (G s) (G s).size 0 (List.replicate ((((G s).size:Int)+4 - 1).tdiv 4).toNat 0)).length) then
   some (.lst false 129 ((((G s).size:Int)+4 - 1).tdiv 4).toNat (lim (pW (G s) (G s).size 0 (List.replicate ((((G s).size:Int)+4 - 1).tdiv 4).toNat 0))))
   else none else none else none else none else none else none):=by kernel_rfl
theorem UE (n:Nat) {r:List Int} (I:aI r) (J:r.length=((aA n).size+3) / 4) (G:vL r=n):r=toL n:=by
 rw [← G]
 apply Dn I
 intro U
 rw [G,J]
 have O:0 < (aA n).size:=by
  rcases Nat.eq_zero_or_pos (aA n).size with h | h
  ·simp_all
  ·exact h
 have M:256 ^ ((aA n).size - 1)≤n:=by rw [lF] at O ⊢;exact ZM (by omega)
 refine Nat.le_trans ?_ M
 rw [show (4294967296:Nat)=256 ^ 4 from rfl,← Nat.pow_mul]
 exact Nat.pow_le_pow_right (by decide) (by omega)
def M5 (args:List AV):Option (Bool×AV):=match args with | [.val (.string s)]=>some (decide (s.size≤140737488355328),yr (vS s)) | _=>none
theorem M6:Entry Tryz.prog 106 M5:=by
 refine iI (E:=w5 fun s=>aA (vS s)) (u:=10) (d:=10) RG (RH _) (by kernel_rfl) (fun args r h=> ?_)
 unfold M5 at h
 split at h
 ·rename_i s
  simp only [Option.some.injEq,Prod.mk.injEq,decide_eq_true_eq] at h
  obtain ⟨a1,rfl⟩:=h
  have G:=aal (fun s=>aA (vS s)) s
  have a6:(aA (vS s)).size≤s.size:=aeM (lK s)
  obtain ⟨r,M,O,U,I⟩:=aaj (aA (vS s)) (by omega)
  rw [jC] at I
  have aE:=UE (vS s) O U I
  generalize aA (vS s)=t at*
  have ab:((t.size:Int)+4 - 1).tdiv 4=(((t.size+3) / 4:Nat):Int):=by
   grind
  rw [ab,Int.toNat_natCast,M] at G
  have Z:uH t ((t.size+3) / 4) (t.size:Int) (List.replicate ((t.size+3) / 4) 0)=true:=by
   unfold uH
   grind
  rw [Z,fx (show -9223372036854775808≤(t.size:Int)+4 by omega) (by omega),fx (show -9223372036854775808≤(t.size:Int)+4 - 1 by omega) (by omega),fx (show -9223372036854775808≤(((t.size+3) / 4:Nat):Int) by omega) (by omega),
   decide_eq_true (show (0:Int)≤(((t.size+3) / 4:Nat):Int) by omega),decide_eq_true (show (((t.size+3) / 4:Nat):Int)≤(((t.size+3) / 4:Nat):Int) by omega),decide_eq_true (show (4:Int)*(((t.size+3) / 4:Nat):Int)≤281474976710656 by omega),decide_eq_true (show (((t.size+3) / 4:Nat):Int)≤9223372036854775807 by omega),
   decide_eq_true (show 0+(t.size+3) / 4*1≤r.length by omega)] at G
  refine ⟨_,_,G,fun B w a7 J=>J,fun B w y J=> ?_⟩
  unfold yr
  grind
 ·cases h
end
end Go.Proofs.YtamcpiicmfielaaGreat.L
namespace Go.Proofs.YtamcpiicmfielaaGreat.L
open Go Go.V Go.RowKit Go.Proofs.YtamcpiicmfielaaGreat.Sp Go.Proofs.YtamcpiicmfielaaGreat.F Go.Proofs.YtamcpiicmfielaaGreatW.PrintWords
open Go.Proofs (Tryz.prog)
noncomputable section
abbrev ej:List Bool:= [false,true,false,true,true]
def mu (zs:List Int) (m l:Nat) (i:Int):List AV:=ar 41 [(0, .lst false 129 m (lim zs)),(3, .sl false 5 0 0 l),(4, .val (.int .i64 i))]
def qy (zs:List Int) (m:Nat) (i:Int):List AV:=ar 41 [(0, .lst false 129 m (lim zs)),(3, .val (.slice none 0 0)),(4, .val (.int .i64 i))]
def lT (bs:List Int):Hp:= [.row (.ints .u8 bs) 5 .live]
def iD (z:Int):List Int:= [IntKind.u8.wrap (z.fdiv (2 ^ min (Int.toNat 24) IntKind.u32.bits)),IntKind.u8.wrap (z.fdiv (2 ^ min (Int.toNat 16) IntKind.u32.bits)),IntKind.u8.wrap (z.fdiv (2 ^ min (Int.toNat 8) IntKind.u32.bits)),IntKind.u8.wrap z]
theorem aft:aH Tryz.prog 141 ej=some (.loop (lb 141 ej)):=by kernel_rfl
theorem Qy:aH Tryz.prog 141 (false :: ej)=some (lb 141 ej):=by kernel_rfl
theorem QA (zs:List Int) (m l:Nat) (i:Int) (bs:List Int):aO Tryz.prog br 141 [0,3,4] (lb 141 ej) (false :: ej) (mu zs m l i) (lT bs)=
  (bif decide (0≤i) then bif decide (0≤i)&&decide (i < m) then bif decide (0≤i)&&decide (i < m) then bif decide (0≤i)&&decide (i < m) then bif decide (0≤i)&&decide (i < m) then
   bif decide (l*1≤bs.length)&&aU Tryz.prog (l+4) 5&&true then bif ai .i64 (i - 1) then some (.normal,mu zs m (l+4) (i - 1),lT (bs.take (l*1) ++ iD (zs.getD i.toNat 0)))
   else none else none else none else none else none else none else some (.exit 0,mu zs m l i,lT bs)):=by kernel_rfl
theorem QB (zs:List Int) (m:Nat) (i:Int):aO Tryz.prog br 141 [0,3,4] (lb 141 ej) (false :: ej) (qy zs m i) []=
  (bif decide (0≤i) then bif decide (0≤i)&&decide (i < m) then bif decide (0≤i)&&decide (i < m) then bif decide (0≤i)&&decide (i < m) then bif decide (0≤i)&&decide (i < m) then
   bif ai .i64 (i - 1) then some (.normal,mu zs m 4 (i - 1),lT (iD (zs.getD i.toNat 0)))
   else none else none else none else none else none else some (.exit 0,qy zs m i, [])):=by kernel_rfl
theorem QC {zs:List Int} {m l:Nat} {i:Int} {bs:List Int} {e:Ex} {T:List AV} {H:Hp} (h:aO Tryz.prog br 141 [0,3,4] (lb 141 ej) (false :: ej) (mu zs m l i) (lT bs)=some (e,T,H)):V.Ends Tryz.prog false 0 0 (lb 141 ej) (mu zs m l i) (lT bs) e T H:=
 bF (aJ _) aN mixed Qy h
theorem QD {zs:List Int} {m:Nat} {i:Int} {e:Ex} {T:List AV} {H:Hp} (h:aO Tryz.prog br 141 [0,3,4] (lb 141 ej) (false :: ej) (qy zs m i) []=some (e,T,H)):V.Ends Tryz.prog false 0 0 (lb 141 ej) (qy zs m i) [] e T H:=
 bF (aJ _) aN mixed Qy h
def iw (zs:List Int):Nat→List Int→List Int
 | 0,bs=>bs
 | d+1,bs=>iw zs d (bs ++ iD (zs.getD d 0))
theorem Qx (zs:List Int):∀ d bs,(iw zs d bs).length=bs.length+4*d
 | 0,bs=>rfl
 | d+1,bs=>by unfold iw;rw [Qx zs d,List.length_append];simp [iD];omega
theorem adV (n:Nat) (h:n≤140737488355328):aU Tryz.prog n 5=true:=by
 unfold aU
 rw [Bool.and_eq_true,decide_eq_true_eq,decide_eq_true_eq,show Tryz.prog.bytesOf 5=1 by kernel_rfl]
 omega
theorem Qz (zs:List Int) (m:Nat) (M:m≤17592186044416):∀ (d:Nat) (bs:List Int),d≤m→bs.length+4*d≤140737488355328→av Tryz.prog (lb 141 ej) (mu zs m bs.length ((d:Int) - 1)) (lT bs) (.exit 0) (mu zs m (bs.length+4*d) (-1)) (lT (iw zs d bs))
 | 0,bs,I,J=> .last (QC (by rw [QA];rfl)) (by grind)
 | d+1,bs,I,J=>by
  have G:=QA zs m bs.length (d:Int) bs
  rw [decide_eq_true (show (0:Int)≤(d:Int) by omega),decide_eq_true (show (d:Int) < (m:Int) by omega),fx (show -9223372036854775808≤(d:Int) - 1 by omega) (by omega),decide_eq_true (show bs.length*1≤bs.length by omega),adV _ (by omega),Nat.mul_one,List.take_length,Int.toNat_natCast] at G
  rw [show (((d+1:Nat):Int) - 1)=(d:Int) by omega]
  have:=Qz zs m M d (bs ++ iD (zs.getD d 0)) (by omega) (by rw [List.length_append];simp [iD];omega)
  rw [List.length_append,show (iD (zs.getD d 0)).length=4 from rfl,show bs.length+4+4*d=bs.length+4*(d+1) by omega] at this
  exact .more (QC G) this
def oP (w:Bool) (m:Nat) (f:Nat→Nat→AV) (i:Int):Bool:=okB m f&&decide (i=(m:Int) - 1)&&decide (m≤17592186044416)&&(decide (m=0)==w)
def Gm (w:Bool) (T:List AV) (H:Hp):Option (Bool×Ex×List AV×Hp):=
 match al T 0,al T 3,al T 4,H with
 | .lst false 129 m f, .val (.slice none 0 0), .val (.int .i64 i), []=>bif T.length==41 then some (oP w m f i, .exit 0,bif w then qy (rowOf m f) m (-1) else mu (rowOf m f) m (4*m) (-1),bif w then [] else lT (iw (rowOf m f) m [])) else none
 | _,_,_,_=>none
theorem afs (w:Bool) (T:List AV) (H:Hp) (e:Ex) (M:List AV) (J:Hp) (h:Gm w T H=some (true,e,M,J)):V.Ends Tryz.prog false 0 0 (.loop (lb 141 ej)) T H e M J:=by
 unfold Gm at h
 split at h
 ·rename_i m f i aE a7 bx
  rw [Bool.cond_eq_ite] at h
  split at h
  ·rename_i O
   rw [beq_iff_eq] at O
   simp only [Option.some.injEq,Prod.mk.injEq] at h
   obtain ⟨I,rfl,rfl,rfl⟩:=h
   unfold oP at I
   simp only [Bool.and_eq_true,decide_eq_true_eq] at I
   obtain ⟨⟨⟨k1,rfl⟩,a6⟩,bD⟩:=I
   have a1:V.Ends Tryz.prog false 0 0 (.loop (lb 141 ej)) (qy (rowOf m f) m ((m:Int) - 1)) [] (.exit 0) (bif w then qy (rowOf m f) m (-1) else mu (rowOf m f) m (4*m) (-1)) (bif w then [] else lT (iw (rowOf m f) m [])):=by
    generalize rowOf m f=zs
    cases w with
    | true=>
     have U:m=0:=by grind
     subst U
     exact (av.last (QD (by rw [QB];rfl)) (by grind)).ends
    | false=>
     have U:m≠0:=by grind
     obtain ⟨d,rfl⟩:∃ d,m=d+1:= ⟨m - 1,by omega⟩
     have G:=QB zs (d+1) (d:Int)
     rw [decide_eq_true (show (0:Int)≤(d:Int) by omega),decide_eq_true (show (d:Int) < ((d+1:Nat):Int) by omega),fx (show -9223372036854775808≤(d:Int) - 1 by omega) (by omega),Int.toNat_natCast] at G
     rw [show (((d+1:Nat):Int) - 1)=(d:Int) by omega]
     have:=Qz zs (d+1) a6 d (iD (zs.getD d 0)) (by omega) (by simp [iD];omega)
     rw [show (iD (zs.getD d 0)).length=4 from rfl,show 4+4*d=4*(d+1) by omega] at this
     exact (av.more (QD G) this).ends
   refine Ends.pre a1 (fun α B w D b0 G=>bq O (fun p Z y ab=> ?_) G)
   simp only [List.mem_cons,List.not_mem_nil,or_false] at Z
   rcases Z with rfl | rfl | rfl
   ·rw [aE] at ab;exact cE cy k1 ab
   ·grind
   grind
  ·cases h
 ·cases h
def tn (w:Bool) (G:ByteArray→ByteArray):Env:= ⟨aw 139 (Gr G) aK,fun _=>false,mH 141 ej [0,3,4] (Gm w) aq⟩
theorem RJ (w:Bool):bf Tryz.prog (tn w fun s=>aA (vS s)).C:=(aJ _).add Ai
theorem RK (w:Bool) (G:ByteArray→ByteArray):dh Tryz.prog (tn w G):=(aB.none.nT aft (afs w)).ok
theorem afu (G:ByteArray→ByteArray) (zs:List Int) (m:Nat):aF Tryz.prog (tn true G) 10 10 141 [.lst false 129 m (lim zs)]=
  (bif ai .i64 ((m:Int) - 1) then bif oP true m (lim zs) ((m:Int) - 1) then some (.val (.string (G (ofBytes [])))) else none else none):=by kernel_rfl
theorem afv (G:ByteArray→ByteArray) (zs:List Int) (m:Nat):aF Tryz.prog (tn false G) 10 10 141 [.lst false 129 m (lim zs)]=
  (bif ai .i64 ((m:Int) - 1) then bif oP false m (lim zs) ((m:Int) - 1) then bif decide (0+4*m*1≤(iw (rowOf m (lim zs)) m []).length) then some (.val (.string (G (ofBytes ((iw (rowOf m (lim zs)) m []).take (4*m*1)))))) else none else none else none):=by kernel_rfl
theorem sV (z:Int):IntKind.u8.wrap z=z % 256:=by
 unfold IntKind.wrap
 simp [IntKind.bits,IntKind.signed]
theorem Ut {z:Int} (I:0≤z) (Z:z < 4294967296):vB ((iD z).map fun z=>UInt8.ofNat z.toNat)=z.toNat:=by
 obtain ⟨n,rfl⟩:=Int.eq_ofNat_of_zero_le I
 have G:∀ k:Nat,(UInt8.ofNat (IntKind.u8.wrap (((n:Int)).fdiv ((k:Nat):Int))).toNat).toNat=n / k % 256:=by
  intro k
  rw [sV,Int.fdiv_eq_ediv_of_nonneg _ (by omega),← Int.natCast_ediv,UInt8.toNat_ofNat']
  omega
 have U:=G 16777216
 have O:=G 65536
 have M:=G 256
 have J:(UInt8.ofNat (IntKind.u8.wrap (n:Int)).toNat).toNat=n % 256:=by
  rw [sV,UInt8.toNat_ofNat']
  omega
 have e:(iD (n:Int))= [IntKind.u8.wrap ((n:Int).fdiv ((16777216:Nat):Int)),IntKind.u8.wrap ((n:Int).fdiv ((65536:Nat):Int)),IntKind.u8.wrap ((n:Int).fdiv ((256:Nat):Int)),IntKind.u8.wrap (n:Int)]:=rfl
 rw [e]
 simp only [List.map_cons,List.map_nil,lJ,AJ,List.length_cons,List.length_nil,U,O,M,J,Int.toNat_natCast]
 omega
theorem QE {zs:List Int} (I:aI zs):∀ (d:Nat) (bs:List Int),d≤zs.length→vB ((iw zs d bs).map fun z=>UInt8.ofNat z.toNat)=vB (bs.map fun z=>UInt8.ofNat z.toNat)*4294967296 ^ d+vL (zs.take d)
 | 0,bs,_=>by simp [iw,cF]
 | d+1,bs,J=>by
  have O:d < zs.length:=J
  have M:zs.getD d 0=zs[d]:=by grind
  have U:zs.take (d+1)=zs.take d ++ [zs[d]]:=by simp_all
  have G:=I _ (List.getElem_mem O)
  unfold iw
  rw [QE I d _ (by omega),List.map_append,Ia,M,Ut G.1 G.2,List.length_map,show (iD zs[d]).length=4 from rfl,U,mC,List.length_take,Nat.min_eq_left (by omega),cj,cF,show (256:Nat) ^ 4=4294967296 from rfl,Nat.pow_succ]
  grind
def Qw (args:List AV):Option (Bool×AV):=match args with | [.lst _ 129 m f]=>some (okB m f&&decide (m≤17592186044416), .val (.string (aA (vL (rowOf m f))))) | _=>none
theorem ahi (l:List Int):vS (ofBytes l)=vB (l.map fun z=>UInt8.ofNat z.toNat):=rfl
theorem afw:Entry Tryz.prog 141 Qw:=by
 intro args r h
 unfold Qw at h
 split at h
 ·rename_i fl m f
  simp only [Option.some.injEq,Prod.mk.injEq,Bool.and_eq_true,decide_eq_true_eq] at h
  obtain ⟨⟨J,b2⟩,rfl⟩:=h
  have b1:=cA m f
  have M:=(fe m f).1 J
  have O:rowOf m (lim (rowOf m f))=rowOf m f:=by rw [qq _ (by omega),List.take_of_length_le (by omega)]
  have b3:okB m (lim (rowOf m f))=true:=by rw [fe,O];exact M
  have a7:∃ w,aF Tryz.prog (tn w fun s=>aA (vS s)) 10 10 141 [.lst false 129 m (lim (rowOf m f))]=some (.val (.string (aA (vL (rowOf m f))))):=by
   by_cases b0:m=0
   ·refine ⟨true, ?_⟩
    have G:=afu (fun s=>aA (vS s)) (rowOf m f) m
    have I:oP true m (lim (rowOf m f)) ((m:Int) - 1)=true:=by
     unfold oP
     grind
    rw [I,fx (by omega) (by omega)] at G
    rw [G]
    have:rowOf m f= []:=List.length_eq_zero_iff.1 (by omega)
    rw [this]
    rfl
   ·refine ⟨false, ?_⟩
    have G:=afv (fun s=>aA (vS s)) (rowOf m f) m
    have I:oP false m (lim (rowOf m f)) ((m:Int) - 1)=true:=by
     unfold oP
     grind
    have ab:=Qx (rowOf m f) m []
    rw [List.length_nil,Nat.zero_add] at ab
    rw [I,O,fx (by omega) (by omega),decide_eq_true (show 0+4*m*1≤(iw (rowOf m f) m []).length by omega),List.take_of_length_le (show (iw (rowOf m f) m []).length≤4*m*1 by omega)] at G
    rw [G]
    have U:=QE M m [] (by omega)
    rw [List.take_of_length_le (by omega),List.map_nil,AJ,Nat.zero_mul,Nat.zero_add] at U
    show some (AV.val (.string (aA (vS (ofBytes (iw (rowOf m f) m []))))))=_
    rw [ahi,U]
  obtain ⟨w,aE⟩:=a7
  intro B bx bD Z a1
  refine rh (RJ w) (RK w _) mixed (by kernel_rfl) aE B bx bD Z ?_
  obtain ⟨y,zs,a6,q1,q2⟩:=a1
  rw [a6]
  exact ⟨y,zs,rfl,uJ (cE cy J q1),q2⟩
 ·cases h
end
end Go.Proofs.YtamcpiicmfielaaGreat.L
namespace Go.Proofs.YtamcpiicmfielaaGreat.L
open Go Go.V Go.RowKit Go.Proofs.YtamcpiicmfielaaGreat.Sp Go.Proofs.YtamcpiicmfielaaGreat.F Go.Proofs.YtamcpiicmfielaaGreatW.PrintWords
open Go.Proofs (Tryz.prog)
noncomputable section
abbrev xh:=Nat→(Nat→Nat→AV)→Nat→Nat→AV
def ad9 (c:Nat→(Nat→Nat→AV)→Bool) (G:Nat→(Nat→Nat→AV)→Nat) (I:xh) (args:List AV):Option (Bool×AV):=match args with | [.lst fl 129 m f]=>some (c m f, .lst false 129 (G m f) (I m f)) | _=>none
def afy (c:Nat→(Nat→Nat→AV)→Bool) (G:Nat→(Nat→Nat→AV)→ByteArray) (args:List AV):Option (Bool×AV):=match args with | [.lst _ 129 m f]=>some (c m f, .val (.string (G m f))) | _=>none
def wO (m:Nat) (f:Nat→Nat→AV):Bool:=okB m f&&decide (m≤140737488355328)
def qN (m:Nat) (f:Nat→Nat→AV):Nat:=(toL (vL (rowOf m f))).length
def qO:xh:=fun m f=>lim (toL (vL (rowOf m f)))
def wB (m:Nat) (f:Nat→Nat→AV):Bool:=okB m f&&decide (m≤17592186044416)
def wC (m:Nat) (f:Nat→Nat→AV):ByteArray:=aA (vL (rowOf m f))
def Bf (G:Nat→(Nat→Nat→AV)→Bool) (J:Nat→(Nat→Nat→AV)→Nat) (O:xh) (I:Nat→(Nat→Nat→AV)→Bool) (M:Nat→(Nat→Nat→AV)→ByteArray):Env:= ⟨aw 140 (ad9 G J O) (aw 141 (afy I M) aK),fun _=>false,aq⟩
theorem RI:bf Tryz.prog (Bf wO qN qO wB wC).C:=((aJ _).add afw).add QX
theorem acf (M:Nat→(Nat→Nat→AV)→Bool) (G:Nat→(Nat→Nat→AV)→Nat) (I:xh) (O:Nat→(Nat→Nat→AV)→Bool) (J:Nat→(Nat→Nat→AV)→ByteArray) (b:Bool) (fl:Bool) (m:Nat) (f:Nat→Nat→AV):aF Tryz.prog (Bf M G I O J) 10 10 108 [.val (.bool b), .lst fl 129 m f]=
  (bif M m f then bif O (G m f) (I m f) then bif b then some (.agg [.val (.bool (!aG (J (G m f) (I m f)) ⟨#[]⟩)), .val (.string (J (G m f) (I m f)))]) else some (.agg [.val (.bool false), .val (.string (J (G m f) (I m f)))]) else none else none):=by kernel_rfl
theorem rP (n:Nat):aG (aA n) ⟨#[]⟩=decide (n=0):=by
 rw [QF]
 by_cases h:n=0
 ·subst h
  rw [decide_eq_true ((toList_nil _).2 (by rw [pX];exact toB_zero))]
  rfl
 ·rw [decide_eq_false h,decide_eq_false]
  intro e
  rw [toList_nil] at e
  have:=jC n
  unfold vS at this
  rw [e,AJ] at this
  grind
def om (z:Int):AV:= .agg [.val (.bool (enc z).1), .val (.string (enc z).2)]
def NT (args:List AV):Option (Bool×AV):=match args with | [.val (.bool b), .lst _ 129 m f]=>some (okB m f&&decide (m≤17592186044416),om (if b=true then -(vL (rowOf m f):Int) else (vL (rowOf m f):Int))) | _=>none
theorem NV:Entry Tryz.prog 108 NT:=by
 refine iI (E:=Bf wO qN qO wB wC) (u:=10) (d:=10) RI aN (by kernel_rfl) (fun args r h=> ?_)
 unfold NT at h
 split at h
 ·rename_i b fl m f
  simp only [Option.some.injEq,Prod.mk.injEq,Bool.and_eq_true,decide_eq_true_eq] at h
  obtain ⟨⟨J,aE⟩,rfl⟩:=h
  have I:=acf wO qN qO wB wC b fl m f
  have M:=(fe m f).1 J
  have ab:(toL (vL (rowOf m f))).length≤m:=by
   have:=lk (dP M)
   rwa [cA] at this
  have k1:wO m f=true:=by unfold wO;grind
  have O:wB (qN m f) (qO m f)=true:=by unfold wB qN qO;rw [j8,decide_eq_true (show (toL (vL (rowOf m f))).length≤17592186044416 by omega)];rfl
  have U:wC (qN m f) (qO m f)=aA (vL (rowOf m f)):=by unfold wC qN qO;rw [mq,cY]
  rw [k1,O,U,rP] at I
  generalize vL (rowOf m f)=n at*
  have Z:=Yu b n
  refine ⟨_,om (if b=true then -(n:Int) else (n:Int)), ?_,fun B w a1 G=>G,fun B w y G=>G⟩
  rw [I]
  unfold om
  grind
 ·cases h
end
end Go.Proofs.YtamcpiicmfielaaGreat.L
namespace Go.Proofs.YtamcpiicmfielaaGreat.L
open Go Go.V Go.RowKit Go.Proofs.YtamcpiicmfielaaGreat.Sp Go.Proofs.YtamcpiicmfielaaGreat.F Go.Proofs.YtamcpiicmfielaaGreatW.PrintWords
open Go.Proofs (Tryz.prog)
noncomputable section
structure Sy where
 jG:ByteArray→Bool
 n47:ByteArray→Nat
 f47:ByteArray→Nat→Nat→AV
 pw:Bool→Nat→(Nat→Nat→AV)→Bool
 pj:Bool→Nat→(Nat→Nat→AV)→Bool
 qw:Bool→Nat→(Nat→Nat→AV)→ByteArray
 lR:Nat→(Nat→Nat→AV)→Nat→(Nat→Nat→AV)→Bool
 lV:Nat→(Nat→Nat→AV)→Nat→(Nat→Nat→AV)→Int
 PJ:ByteArray→ByteArray
def aah (S:Sy) (args:List AV):Option (Bool×AV):=match args with | [.val (.string s)]=>some (S.jG s, .lst false 129 (S.n47 s) (S.f47 s)) | _=>none
def ace (S:Sy) (args:List AV):Option (Bool×AV):=match args with | [.val (.bool b), .lst _ 129 m f]=>some (S.pw b m f, .agg [.val (.bool (S.pj b m f)), .val (.string (S.qw b m f))]) | _=>none
def VW (S:Sy) (args:List AV):Option (Bool×AV):=match args with | [.lst _ 129 m f, .lst _ 129 n g]=>some (S.lR m f n g, .val (.int .i64 (S.lV m f n g))) | _=>none
def sy:Sy where
 jG s:=decide (s.size≤140737488355328)
 n47 s:=(toL (vS s)).length
 f47 s:=lim (toL (vS s))
 pw _ m f:=okB m f&&decide (m≤17592186044416)
 pj b m f:=(enc (if b=true then -(vL (rowOf m f):Int) else (vL (rowOf m f):Int))).1
 qw b m f:=(enc (if b=true then -(vL (rowOf m f):Int) else (vL (rowOf m f):Int))).2
 lR m f n g:=dS m f&&dS n g&&decide (m≤140737488355328)&&decide (n≤140737488355328)
 lV m f n g:=cz (vL (rowOf m f)) (vL (rowOf n g))
 PJ s:=aA (vS s)
def CS (S:Sy):FuncId→List AV→Option (Bool×AV):=aw 106 (aah S) (aw 108 (ace S) (aw 107 (VW S) (aw 139 (Gr S.PJ) aK)))
theorem A7:bf Tryz.prog (CS sy):=((((aJ _).add Ai).add Lb).add NV).add M6
def KS (g:FuncId):Bool:=g==108 ||g==107 ||g==140 ||g==141
def ES (S:Sy):Env:= ⟨CS S,KS,aq⟩
theorem DW (s:ByteArray):(toL (vS s)).length≤s.size:=by
 refine lk (Nat.lt_of_lt_of_le (lK s) ?_)
 exact Nat.pow_le_pow_left (by decide) _
theorem nL (s:ByteArray) (h:s.size≤17592186044416):sy.jG s=true:=decide_eq_true (by omega)
theorem afP (b:Bool) (n:Nat) (h:(toL n).length≤17592186044416):sy.pw b (toL n).length (lim (toL n))=true:=by
 show (okB (toL n).length (lim (toL n))&&decide ((toL n).length≤17592186044416))=true
 rw [j8,decide_eq_true h]
 rfl
theorem afO (b:Bool) (n:Nat):AV.agg [.val (.bool (sy.pj b (toL n).length (lim (toL n)))), .val (.string (sy.qw b (toL n).length (lim (toL n))))]=om (if b=true then -(n:Int) else (n:Int)):=by
 show AV.agg [.val (.bool (enc (if b=true then -(vL (rowOf (toL n).length (lim (toL n))):Int) else (vL (rowOf (toL n).length (lim (toL n))):Int))).1), .val (.string (enc (if b=true then -(vL (rowOf (toL n).length (lim (toL n))):Int) else (vL (rowOf (toL n).length (lim (toL n))):Int))).2)]=_
 rw [mq,cY]
 rfl
theorem abG (S:Sy) (b:Bool) (s:ByteArray):aF Tryz.prog (ES S) 10 10 121 [.agg [.val (.bool b), .val (.string s)]]=
  (bif S.jG s then bif S.pw (!b) (S.n47 s) (S.f47 s) then some (.agg [.val (.bool (S.pj (!b) (S.n47 s) (S.f47 s))), .val (.string (S.qw (!b) (S.n47 s) (S.f47 s)))]) else none else none):=by kernel_rfl
def Ns (args:List AV):Option (Bool×AV):=match args with | [.agg [.val (.bool b), .val (.string s)]]=>some (decide (s.size≤17592186044416),om (-(val b s))) | _=>none
theorem abH:Entry Tryz.prog 121 Ns:=by
 refine iI (E:=ES sy) (u:=10) (d:=10) A7 aN (by kernel_rfl) (fun args r h=> ?_)
 unfold Ns at h
 split at h
 ·rename_i b s
  simp only [Option.some.injEq,Prod.mk.injEq,decide_eq_true_eq] at h
  obtain ⟨O,rfl⟩:=h
  have G:=abG sy b s
  have M:sy.n47 s=(toL (vS s)).length:=rfl
  have J:sy.f47 s=lim (toL (vS s)):=rfl
  have U:=DW s
  rw [nL s O,M,J,afP _ _ (by omega),afO] at G
  refine ⟨_,_,G,fun B w Z I=>I,fun B w y I=> ?_⟩
  have e:(if (!b)=true then -(vS s:Int) else (vS s:Int))= -(val b s):=by
   unfold val
   grind
  grind
 ·cases h
theorem U2 (S:Sy) (s t:ByteArray):aF Tryz.prog (ES S) 10 10 64 [.agg [.val (.bool true), .val (.string s)], .agg [.val (.bool true), .val (.string t)]]=(bif S.jG s then bif S.jG t then bif decide ((0:Int) < (S.n47 s:Int)) then bif decide ((0:Int) < (S.n47 t:Int)) then bif S.lR (S.n47 t) (S.f47 t) (S.n47 s) (S.f47 s) then some (.val (.int .i64 (S.lV (S.n47 t) (S.f47 t) (S.n47 s) (S.f47 s)))) else none else bif decide ((0:Int) < (S.n47 s:Int)) then some (.val (.int .i64 (-1))) else bif decide ((0:Int) < (S.n47 t:Int)) then some (.val (.int .i64 1)) else bif S.lR (S.n47 s) (S.f47 s) (S.n47 t) (S.f47 t) then some (.val (.int .i64 (S.lV (S.n47 s) (S.f47 s) (S.n47 t) (S.f47 t)))) else none else bif decide ((0:Int) < (S.n47 s:Int)) then some (.val (.int .i64 (-1))) else bif decide ((0:Int) < (S.n47 t:Int)) then some (.val (.int .i64 1)) else bif S.lR (S.n47 s) (S.f47 s) (S.n47 t) (S.f47 t) then some (.val (.int .i64 (S.lV (S.n47 s) (S.f47 s) (S.n47 t) (S.f47 t)))) else none else none else none):=by kernel_rfl
theorem U1 (S:Sy) (s t:ByteArray):aF Tryz.prog (ES S) 10 10 64 [.agg [.val (.bool true), .val (.string s)], .agg [.val (.bool false), .val (.string t)]]=(bif S.jG s then bif S.jG t then bif decide ((0:Int) < (S.n47 s:Int)) then bif decide ((0:Int) < (S.n47 s:Int)) then some (.val (.int .i64 (-1))) else bif S.lR (S.n47 s) (S.f47 s) (S.n47 t) (S.f47 t) then some (.val (.int .i64 (S.lV (S.n47 s) (S.f47 s) (S.n47 t) (S.f47 t)))) else none else bif decide ((0:Int) < (S.n47 s:Int)) then some (.val (.int .i64 (-1))) else bif S.lR (S.n47 s) (S.f47 s) (S.n47 t) (S.f47 t) then some (.val (.int .i64 (S.lV (S.n47 s) (S.f47 s) (S.n47 t) (S.f47 t)))) else none else none else none):=by kernel_rfl
theorem U0 (S:Sy) (s t:ByteArray):aF Tryz.prog (ES S) 10 10 64 [.agg [.val (.bool false), .val (.string s)], .agg [.val (.bool true), .val (.string t)]]=(bif S.jG s then bif S.jG t then bif decide ((0:Int) < (S.n47 t:Int)) then some (.val (.int .i64 1)) else bif S.lR (S.n47 s) (S.f47 s) (S.n47 t) (S.f47 t) then some (.val (.int .i64 (S.lV (S.n47 s) (S.f47 s) (S.n47 t) (S.f47 t)))) else none else none else none):=by kernel_rfl
theorem UZ (S:Sy) (s t:ByteArray):aF Tryz.prog (ES S) 10 10 64 [.agg [.val (.bool false), .val (.string s)], .agg [.val (.bool false), .val (.string t)]]=(bif S.jG s then bif S.jG t then bif S.lR (S.n47 s) (S.f47 s) (S.n47 t) (S.f47 t) then some (.val (.int .i64 (S.lV (S.n47 s) (S.f47 s) (S.n47 t) (S.f47 t)))) else none else none else none):=by kernel_rfl
theorem yP (n:Nat):decide ((0:Int) < ((toL n).length:Int))=decide (n≠0):=by
 by_cases h:n=0
 ·subst h
  rw [toL_zero]
  rfl
 ·rw [decide_eq_true h,decide_eq_true]
  rcases Nat.eq_zero_or_pos (toL n).length with G | G
  ·have I:=cY n
   rw [List.length_eq_zero_iff.1 G,cF] at I
   grind
  ·omega
theorem QL (a b:Nat) (ha:(toL a).length≤140737488355328) (hb:(toL b).length≤140737488355328):sy.lR (toL a).length (lim (toL a)) (toL b).length (lim (toL b))=true∧sy.lV (toL a).length (lim (toL a)) (toL b).length (lim (toL b))=cz a b:=by
 constructor
 ·show (dS _ _&&dS _ _&&decide _&&decide _)=true
  rw [xH,xH,decide_eq_true ha,decide_eq_true hb]
  rfl
 ·show cz (vL (rowOf _ _)) (vL (rowOf _ _))=_
  rw [mq,mq,cY,cY]
def K1 (args:List AV):Option (Bool×AV):=match args with | [.agg [.val (.bool b), .val (.string s)], .agg [.val (.bool c), .val (.string t)]]=>some (decide (s.size≤17592186044416)&&decide (t.size≤17592186044416), .val (.int .i64 (cR (val b s) (val c t)))) | _=>none
theorem UX:Entry Tryz.prog 64 K1:=by
 refine iI (E:=ES sy) (u:=10) (d:=10) A7 aN (by kernel_rfl) (fun args r h=> ?_)
 unfold K1 at h
 split at h
 ·rename_i b s c t
  simp only [Option.some.injEq,Prod.mk.injEq,Bool.and_eq_true,decide_eq_true_eq] at h
  obtain ⟨⟨M,O⟩,rfl⟩:=h
  have a1:=DW s
  have a6:=DW t
  obtain ⟨q1,q2⟩:=QL (vS s) (vS t) (by omega) (by omega)
  obtain ⟨ab,aE⟩:=QL (vS t) (vS s) (by omega) (by omega)
  have e1:sy.n47 s=(toL (vS s)).length:=rfl
  have G:sy.f47 s=lim (toL (vS s)):=rfl
  have I:sy.n47 t=(toL (vS t)).length:=rfl
  have J:sy.f47 t=lim (toL (vS t)):=rfl
  have Z:aF Tryz.prog (ES sy) 10 10 64 [.agg [.val (.bool b), .val (.string s)], .agg [.val (.bool c), .val (.string t)]]=some (.val (.int .i64 (cR (val b s) (val c t)))):=by
   cases b <;> cases c
   ·rw [UZ,nL s M,nL t O,e1,G,I,J,q1,q2]
    simp only [cond,val,cz,cR]
    simp
   ·rw [U0,nL s M,nL t O,e1,G,I,J,q1,q2,yP]
    simp only [cond,val,cz,cR]
    grind
   ·rw [U1,nL s M,nL t O,e1,G,I,J,q1,q2,yP]
    simp only [val,cz,cR]
    grind
   ·rw [U2,nL s M,nL t O,e1,G,I,J,q1,q2,ab,aE,yP,yP]
    simp only [val,cz,cR]
    grind
  exact ⟨_,_,Z,fun B w a7 U=>U,fun B w y U=>U⟩
 ·cases h
theorem oQ (s t:ByteArray):aG s t=decide (s=t):=by
 unfold aG
 by_cases h:s=t
 ·grind
 ·rw [decide_eq_false h,← Bool.not_eq_true,beq_iff_eq]
  exact fun e=>h (nY e)
def CR (b:Bool) (s:ByteArray):Int:=if aA (vS s)=s then (if b=true∧s.toList= [] then 1 else 0) else 1
end
end Go.Proofs.YtamcpiicmfielaaGreat.L
namespace Go.Proofs.YtamcpiicmfielaaGreat.L
open Go Go.V Go.RowKit Go.Proofs.YtamcpiicmfielaaGreat.Sp Go.Proofs.YtamcpiicmfielaaGreat.F Go.Proofs.YtamcpiicmfielaaGreatW.PrintWords
open Go.Proofs (Tryz.prog)
noncomputable section
def two (w:Int):List Int:= [IntKind.u32.wrap w,IntKind.u32.wrap (w.fdiv (2 ^ min (Int.toNat 32) IntKind.u64.bits))]
theorem abT (S : Sy) (z : Int) : aF Tryz.prog (ES S) 10 10 69 [.val (.int .i64 z)] =
    (bif decide (z < 0) then bif S.pw (decide (z < 0)) 2 (lim (two (IntKind.u64.wrap (0 - IntKind.u64.wrap z)))) then some (.agg [.val (.bool (S.pj (decide (z < 0)) 2 (lim (two (IntKind.u64.wrap (0 - IntKind.u64.wrap z)))))), .val (.string (S.qw (decide (z < 0)) 2 (lim (two (IntKind.u64.wrap (0 - IntKind.u64.wrap z))))))]) else none
     else bif S.pw (decide (z < 0)) 2 (lim (two (IntKind.u64.wrap z))) then some (.agg [.val (.bool (S.pj (decide (z < 0)) 2 (lim (two (IntKind.u64.wrap z))))), .val (.string (S.qw (decide (z < 0)) 2 (lim (two (IntKind.u64.wrap z)))))]) else none) := by kernel_rfl
theorem ag6 {n:Nat} (h:n < 18446744073709551616):aI (two n)∧vL (two n)=n:=by
 have e1:IntKind.u32.wrap (n:Int)=((n % 4294967296:Nat):Int):=by rw [IntKind.wrap_u32];omega
 have G:IntKind.u32.wrap ((n:Int).fdiv (2 ^ min (Int.toNat 32) IntKind.u64.bits))=((n / 4294967296:Nat):Int):=by
  rw [show ((2:Int) ^ min (Int.toNat 32) IntKind.u64.bits)=((4294967296:Nat):Int) from rfl,Int.fdiv_eq_ediv_of_nonneg _ (by omega),← Int.natCast_ediv,IntKind.wrap_u32]
  omega
 unfold two
 rw [e1,G]
 refine ⟨fun x I=> ?_, ?_⟩
 ·grind
 ·simp only [cj,cF,Int.toNat_natCast]
  omega
def NB (args:List AV):Option (Bool×AV):=match args with | [.val (.int .i64 z)]=>some (decide (-9223372036854775808≤z)&&decide (z≤9223372036854775807),om z) | _=>none
theorem QM (b:Bool) (n:Nat) (h:n < 18446744073709551616):sy.pw b 2 (lim (two n))=true∧AV.agg [.val (.bool (sy.pj b 2 (lim (two n)))), .val (.string (sy.qw b 2 (lim (two n))))]=om (if b=true then -(n:Int) else (n:Int)):=by
 obtain ⟨J,G⟩:=ag6 h
 have I:rowOf 2 (lim (two n))=two n:=qq (two n) (Nat.le_refl 2)
 constructor
 ·show (okB 2 (lim (two n))&&decide (2≤17592186044416))=true
  rw [(fe _ _).2 (by grind),decide_eq_true (by omega)]
  rfl
 ·show AV.agg [.val (.bool (enc (if b=true then -(vL (rowOf 2 (lim (two n))):Int) else (vL (rowOf 2 (lim (two n))):Int))).1), .val (.string (enc (if b=true then -(vL (rowOf 2 (lim (two n))):Int) else (vL (rowOf 2 (lim (two n))):Int))).2)]=_
  rw [I,G]
  rfl
theorem abU:Entry Tryz.prog 69 NB:=by
 refine iI (E:=ES sy) (u:=10) (d:=10) A7 aN (by kernel_rfl) (fun args r h=> ?_)
 unfold NB at h
 split at h
 ·rename_i z
  simp only [Option.some.injEq,Prod.mk.injEq,Bool.and_eq_true,decide_eq_true_eq] at h
  obtain ⟨⟨M,O⟩,rfl⟩:=h
  have I:=abT sy z
  have J:aF Tryz.prog (ES sy) 10 10 69 [.val (.int .i64 z)]=some (om z):=by
   rw [I]
   by_cases U:z < 0
   ·have e:IntKind.u64.wrap (0 - IntKind.u64.wrap z)=((z.natAbs:Nat):Int):=by rw [IntKind.wrap_u64,IntKind.wrap_u64];omega
    obtain ⟨q1,q2⟩:=QM true z.natAbs (by omega)
    grind
   ·have e:IntKind.u64.wrap z=((z.natAbs:Nat):Int):=by rw [IntKind.wrap_u64];omega
    obtain ⟨q1,q2⟩:=QM false z.natAbs (by omega)
    grind
  exact ⟨_,_,J,fun B w Z G=>G,fun B w y G=>G⟩
 ·cases h
end
end Go.Proofs.YtamcpiicmfielaaGreat.L
namespace Go.Proofs.YtamcpiicmfielaaGreat.L
open Go Go.V Go.RowKit Go.Proofs.YtamcpiicmfielaaGreat.Sp Go.Proofs.YtamcpiicmfielaaGreat.F Go.Proofs.YtamcpiicmfielaaGreatW.PrintWords
open Go.Proofs (Tryz.prog)
noncomputable section
structure Sg where
 len:Nat→Nat
 row:Nat→Nat→Nat→AV
 num:Nat→(Nat→Nat→AV)→Nat
 bU:Nat→(Nat→Nat→AV)→Bool
 aV:Nat→(Nat→Nat→AV)→Bool
 can:Nat→(Nat→Nat→AV)→Bool
 vs:ByteArray→Nat
 mg:Nat→ByteArray
 ok:ByteArray→Bool
 sg:Bool→Nat→Int
 val:Bool→ByteArray→Int
 ng:Int→Bool
 ms:Int→ByteArray
 cmp:Nat→Nat→Int
 fT:Int→Int→Int
 CR:Bool→ByteArray→Int
 bl:Nat→Nat
def Sg.fX (S:Sg) (n:Nat):AV:= .lst false 129 (S.len n) (S.row n)
def Sg.int (S:Sg) (z:Int):AV:= .agg [.val (.bool (S.ng z)), .val (.string (S.ms z))]
def aa:Sg where
 len n:=(toL n).length
 row n:=lim (toL n)
 num m f:=vL (rowOf m f)
 bU m f:=okB m f&&decide (m≤17592186044416)
 aV m f:=okB m f&&decide (m≤8796093022208)
 can m f:=dS m f&&decide (m≤17592186044416)
 vs s:=vS s
 mg n:=aA n
 ok s:=decide (s.size≤8796093022208)
 sg b n:=if b=true then -(n:Int) else (n:Int)
 val b s:=Sp.val b s
 ng z:=(enc z).1
 ms z:=(enc z).2
 cmp a b:=cz a b
 fT a b:=cR a b
 CR b s:=L.CR b s
 bl n:=aT n
theorem mZ (n:Nat):aa.num (aa.len n) (aa.row n)=n:=by
 show vL (rowOf (toL n).length (lim (toL n)))=n
 rw [mq,cY]
def bs (n:Nat):Nat:=(toB n).length
theorem pT (n:Nat):aa.len n≤bs n:=by
 show (toL n).length≤(toB n).length
 refine lk (Nat.lt_of_lt_of_le (Nh (Nat.le_refl _)) ?_)
 exact Nat.pow_le_pow_left (by decide) _
theorem rX {n:Nat} (h:bs n≤17592186044416):aa.bU (aa.len n) (aa.row n)=true:=by
 show (okB (toL n).length (lim (toL n))&&decide ((toL n).length≤17592186044416))=true
 have:=pT n
 have G:(toL n).length≤17592186044416:=Nat.le_trans this h
 rw [j8,decide_eq_true G]
 rfl
theorem rZ {n:Nat} (h:bs n≤8796093022208):aa.aV (aa.len n) (aa.row n)=true:=by
 show (okB (toL n).length (lim (toL n))&&decide ((toL n).length≤8796093022208))=true
 have:=pT n
 have G:(toL n).length≤8796093022208:=Nat.le_trans this h
 rw [j8,decide_eq_true G]
 rfl
theorem xJ {n:Nat} (h:bs n≤17592186044416):aa.can (aa.len n) (aa.row n)=true:=by
 show (dS (toL n).length (lim (toL n))&&decide ((toL n).length≤17592186044416))=true
 have:=pT n
 have G:(toL n).length≤17592186044416:=Nat.le_trans this h
 rw [xH,decide_eq_true G]
 rfl
theorem eX (z:Int):aa.val (aa.ng z) (aa.ms z)=z:=Rb z
theorem wv (z:Int):(aa.ms z).size=bs z.natAbs:=lF _
theorem bW {z:Int} (h:bs z.natAbs≤8796093022208):aa.ok (aa.ms z)=true:=decide_eq_true (by rw [wv];exact h)
theorem lL (b:Bool) (s:ByteArray):aa.vs s=(aa.val b s).natAbs:=(abE b s).symm
theorem pt (s:ByteArray):bs (aa.vs s)≤s.size:=yQ (lK s)
theorem dK (b:Bool) (s:ByteArray):bs (aa.val b s).natAbs≤s.size:=by rw [← lL];exact pt s
theorem wQ (z:Int):aa.vs (aa.ms z)=z.natAbs:=jC _
theorem AO (n:Nat):aa.vs (aa.mg n)=n:=jC _
theorem iC {n m:Nat} (h:n < 256 ^ m):bs n≤m:=yQ h
theorem nX (n:Nat):n < 256 ^ bs n:=Nh (Nat.le_refl _)
theorem dI {a b:Nat} (h:a≤b):bs a≤bs b:=iC (Nat.lt_of_le_of_lt h (nX b))
theorem tA (a b:Nat):bs (a+b)≤max (bs a) (bs b)+1:=by
 apply iC
 have G:=Nat.lt_of_lt_of_le (nX a) (Nat.pow_le_pow_right (by decide:0 < 256) (Nat.le_max_left (bs a) (bs b)))
 have I:=Nat.lt_of_lt_of_le (nX b) (Nat.pow_le_pow_right (by decide:0 < 256) (Nat.le_max_right (bs a) (bs b)))
 grind
theorem xB (a b:Nat):bs (a*b)≤bs a+bs b:=by
 apply iC
 rw [Nat.pow_add]
 exact Nat.mul_lt_mul'' (nX a) (nX b)
theorem KJ (a b:Nat):bs (a - b)≤bs a:=dI (Nat.sub_le a b)
theorem Uj (a b:Nat):bs (a / b)≤bs a:=dI (Nat.div_le_self a b)
theorem Ul (a b:Nat):bs (a % b)≤bs a:=dI (Nat.mod_le a b)
theorem Un (a b:Int):bs (a+b).natAbs≤max (bs a.natAbs) (bs b.natAbs)+1:=Nat.le_trans (dI (Int.natAbs_add_le a b)) (tA _ _)
theorem lg (a b:Int):bs (a*b).natAbs≤bs a.natAbs+bs b.natAbs:=by rw [Int.natAbs_mul];exact xB _ _
theorem xC (a:Int):bs (-a).natAbs=bs a.natAbs:=by grind
def oV (S:Sg) (args:List AV):Option (Bool×AV):=match args with | [.val (.string s)]=>some (true, .val (.string (S.mg (S.vs s)))) | _=>none
def wF (S:Sg) (args:List AV):Option (Bool×AV):=match args with | [.val (.string s)]=>some (S.ok s,S.fX (S.vs s)) | _=>none
def AE (S:Sg) (args:List AV):Option (Bool×AV):=match args with | [.lst _ 129 m f]=>some (S.bU m f,S.fX (S.num m f)) | _=>none
def Ao (S:Sg) (args:List AV):Option (Bool×AV):=match args with | [.val (.bool b), .lst _ 129 m f]=>some (S.bU m f,S.int (S.sg b (S.num m f))) | _=>none
def wD (S:Sg) (args:List AV):Option (Bool×AV):=match args with | [.lst _ 129 m f, .lst _ 129 n g]=>some (S.can m f&&S.can n g, .val (.int .i64 (S.cmp (S.num m f) (S.num n g)))) | _=>none
def lH (S:Sg) (args:List AV):Option (Bool×AV):=match args with | [.agg [.val (.bool b), .val (.string s)]]=>some (S.ok s,S.int (-(S.val b s))) | _=>none
def oT (S:Sg) (args:List AV):Option (Bool×AV):=match args with | [.agg [.val (.bool b), .val (.string s)], .agg [.val (.bool c), .val (.string t)]]=>some (S.ok s&&S.ok t, .val (.int .i64 (S.fT (S.val b s) (S.val c t)))) | _=>none
def cW (z:Int):Bool:=decide (-9223372036854775808≤z)&&decide (z≤9223372036854775807)
def kW (S:Sg) (args:List AV):Option (Bool×AV):=match args with | [.val (.int .i64 z)]=>some (cW z,S.int z) | _=>none
theorem uo {g:FuncId} {f G:List AV→Option (Bool×AV)} (h:Entry Tryz.prog g f) (I:∀ args r,G args=some (true,r)→f args=some (true,r)):Entry Tryz.prog g G:=fun args r J=>h args r (I args r J)
theorem C8:Entry Tryz.prog 106 (wF aa):=uo M6 fun args r h=>by
 unfold wF at h
 split at h
 ·simp only [Option.some.injEq,Prod.mk.injEq] at h
  obtain ⟨G,rfl⟩:=h
  have I:=of_decide_eq_true G
  exact congrArg some (Prod.ext (show decide (_≤140737488355328)=true from decide_eq_true (Nat.le_trans I (by decide))) rfl)
 ·cases h
theorem LK:Entry Tryz.prog 140 (AE aa):=uo QX fun args r h=>by
 unfold AE at h
 split at h
 ·simp only [Option.some.injEq,Prod.mk.injEq] at h
  obtain ⟨G,rfl⟩:=h
  have G:(okB _ _&&decide (_≤_))=true:=G
  rw [Bool.and_eq_true,decide_eq_true_eq] at G
  exact congrArg some (Prod.ext (show (okB _ _&&decide (_≤140737488355328))=true by grind) rfl)
 ·cases h
theorem C9:Entry Tryz.prog 108 (Ao aa):=NV
theorem C7:Entry Tryz.prog 107 (wD aa):=uo Lb fun args r h=>by
 unfold wD at h
 split at h
 ·simp only [Option.some.injEq,Prod.mk.injEq] at h
  obtain ⟨G,rfl⟩:=h
  have G:((dS _ _&&decide (_≤_))&&(dS _ _&&decide (_≤_)))=true:=G
  simp only [Bool.and_eq_true,decide_eq_true_eq] at G
  obtain ⟨⟨I,J⟩,M,O⟩:=G
  exact congrArg some (Prod.ext (show (dS _ _&&dS _ _&&decide (_≤140737488355328)&&decide (_≤140737488355328))=true by grind) rfl)
 ·cases h
theorem Ls:Entry Tryz.prog 121 (lH aa):=uo abH fun args r h=>by
 unfold lH at h
 split at h
 ·simp only [Option.some.injEq,Prod.mk.injEq] at h
  obtain ⟨G,rfl⟩:=h
  have I:=of_decide_eq_true G
  exact congrArg some (Prod.ext (show decide (_≤17592186044416)=true from decide_eq_true (Nat.le_trans I (by decide))) rfl)
 ·cases h
theorem Lo:Entry Tryz.prog 64 (oT aa):=uo UX fun args r h=>by
 unfold oT at h
 split at h
 ·simp only [Option.some.injEq,Prod.mk.injEq] at h
  obtain ⟨G,rfl⟩:=h
  have G:(decide (_≤_)&&decide (_≤_))=true:=G
  simp only [Bool.and_eq_true,decide_eq_true_eq] at G
  exact congrArg some (Prod.ext (show (decide (_≤17592186044416)&&decide (_≤17592186044416))=true by grind) rfl)
 ·cases h
theorem yp:Entry Tryz.prog 69 (kW aa):=abU
theorem dT {p:Prop} [Decidable p] (h:p):decide p=true:=decide_eq_true h
theorem dF {p:Prop} [Decidable p] (h:¬ p):decide p=false:=decide_eq_false h
theorem aM {z:Int} (h: -9223372036854775808≤z∧z≤9223372036854775807):ai .i64 z=true:=fx h.1 h.2
theorem dj {z:Int} (h:0≤z∧z≤18446744073709551615):ai .u64 z=true:=by
 unfold ai;rw [Bool.and_eq_true,decide_eq_true_eq,decide_eq_true_eq];exact h
theorem dH (n:Nat):IntKind.u32.wrap (n:Int)=((n % 4294967296:Nat):Int):=by rw [IntKind.wrap_u32];omega
theorem sU (n:Nat):IntKind.u64.wrap (n:Int)=((n % 18446744073709551616:Nat):Int):=by rw [IntKind.wrap_u64];omega
theorem iJ (a b:Nat):(a:Int).fdiv (b:Int)=((a / b:Nat):Int):=by grind
theorem jK (a:Nat):(a:Int).fdiv (4294967296:Int)=((a / 4294967296:Nat):Int):=iJ a 4294967296
theorem cH {l:List Int} (h:aI l) (i:Nat) (hi:i < l.length):∃ a:Nat,a < 4294967296∧l[i]=(a:Int)∧l.getD i 0=(a:Int):=by
 obtain ⟨a,ha,G⟩:=aaf h i hi
 grind
theorem zT (n:Nat) (h:n≤35184372088832):aU Tryz.prog n 129=true:=by
 unfold aU
 rw [Bool.and_eq_true,decide_eq_true_eq,decide_eq_true_eq,show Tryz.prog.bytesOf 129=4 by kernel_rfl]
 omega
theorem kE (zs:List Int):rowOf zs.length (lim zs)=zs:=by rw [qq _ (Nat.le_refl _),List.take_length]
theorem l9 {zs:List Int} (h:aI zs) (G:zs.length≤17592186044416):aa.bU zs.length (lim zs)=true:=by
 show (okB _ _&&decide _)=true
 rw [(fe _ _).2 (by rw [kE];exact h),decide_eq_true G]
 rfl
theorem lZ (zs:List Int):aa.num zs.length (lim zs)=vL zs:=by
 show vL (rowOf _ _)=_
 rw [kE]
theorem jg {zs:List Int} (h:aI zs):okB zs.length (lim zs)=true:=(fe _ _).2 (by rw [kE];exact h)
theorem lu {fl:Bool} {m:Nat} {f:Nat→Nat→AV} {α:Nat→Nat×Nat} {B:Nat→Prop} {w:World} {D:Nat→Prop} {x:Value} (G:okB m f=true) (h:(AV.lst fl 129 m f).Rel Tryz.prog α B w D x):(AV.lst false 129 (rowOf m f).length (lim (rowOf m f))).Rel Tryz.prog α B w D x:=by
 rw [cA]
 exact uJ (cE cy G h)
theorem NN {m:Nat} {f:Nat→Nat→AV} (h:aa.bU m f=true):okB m f=true∧aI (rowOf m f)∧(rowOf m f).length≤17592186044416∧aa.num m f=vL (rowOf m f):=by
 have h:(okB m f&&decide (m≤17592186044416))=true:=h
 rw [Bool.and_eq_true,decide_eq_true_eq] at h
 exact ⟨h.1,(fe _ _).1 h.1,by rw [cA];exact h.2,rfl⟩
theorem rY {m:Nat} {f:Nat→Nat→AV} (h:aa.aV m f=true):okB m f=true∧aI (rowOf m f)∧(rowOf m f).length≤8796093022208∧aa.num m f=vL (rowOf m f):=by
 have h:(okB m f&&decide (m≤8796093022208))=true:=h
 rw [Bool.and_eq_true,decide_eq_true_eq] at h
 exact ⟨h.1,(fe _ _).1 h.1,by rw [cA];exact h.2,rfl⟩
theorem tC {m:Nat} {f:Nat→Nat→AV} (h:aa.can m f=true):okB m f=true∧aI (rowOf m f)∧(rowOf m f).length≤17592186044416∧aa.num m f=vL (rowOf m f)∧rowOf m f=toL (aa.num m f):=by
 have h:(dS m f&&decide (m≤17592186044416))=true:=h
 rw [Bool.and_eq_true,decide_eq_true_eq] at h
 obtain ⟨G,I⟩:=h
 unfold dS at G
 rw [Bool.and_eq_true,decide_eq_true_eq] at G
 exact ⟨G.1,(fe _ _).1 G.1,by rw [cA];exact I,rfl,G.2⟩
theorem bH (n:Nat) (h:n≤140737488355328):ai .i64 (n:Int)=true:=aM (by omega)
def lq (a b:Int):Int:= @ite Int (a < b) (Int.decLt a b) b a
theorem Np (a b:Nat):lq (a:Int) (b:Int)=((max a b:Nat):Int):=by
 unfold lq
 grind
end
end Go.Proofs.YtamcpiicmfielaaGreat.L
namespace Go.Proofs.YtamcpiicmfielaaGreat.L
open Go Go.V Go.RowKit Go.Proofs.YtamcpiicmfielaaGreat.Sp Go.Proofs.YtamcpiicmfielaaGreat.F Go.Proofs.YtamcpiicmfielaaGreatW.PrintWords
open Go.Proofs (Tryz.prog)
noncomputable section
abbrev gj:List Bool:= [false,true,false,true,true,true,true]
def fO (I zs:List Int) (c:Int) (G:List Int) (n i:Int):List AV:=ar 56 [(1, .lst false 129 I.length (lim I)),(5, .sl false 129 0 0 zs.length),(6, .val (.int .u64 c)),(20, .lst false 129 G.length (lim G)),(21, .val (.int .i64 n)),(22, .val (.int .i64 i))]
def fw (I zs:List Int) (c:Int) (G:List Int) (n i:Int):Hp:= [.row (.ints .u32 zs) 129 .live]
theorem TM:aH Tryz.prog 118 gj=some (.loop (lb 118 gj)):=by kernel_rfl
theorem Vr:aH Tryz.prog 118 (false :: gj)=some (lb 118 gj):=by kernel_rfl
theorem Pa (I zs:List Int) (c:Int) (G:List Int) (n i:Int):letI J:=(IntKind.u64.wrap (IntKind.u64.wrap (c+G.getD i.toNat (0:Int))+I.getD i.toNat (0:Int)));
  (aO Tryz.prog br 118 [1,5,6,20,21,22] (lb 118 gj) (false :: gj) (fO I zs c G n i) (fw I zs c G n i)=(bif decide (i < n) then (bif decide ((0:Int)≤i)&&decide (i < (↑G.length:Int)) then (bif ai IntKind.u64 (G.getD i.toNat (0:Int)) then (bif decide (i < (↑I.length:Int)) then (bif decide ((0:Int)≤i)&&decide (i < (↑I.length:Int)) then (bif ai IntKind.u64 (I.getD i.toNat (0:Int)) then (bif decide (zs.length*1≤zs.length)&&aU Tryz.prog (zs.length+1) 129&&true then (bif ai IntKind.i64 (i+(1:Int)) then some (.normal,ar 56 [(1,(.lst false 129 I.length (lim I))),(5,(.sl false 129 0 0 (zs.length+1))),(6,(.val (.int .u64 (J.fdiv (4294967296:Int))))),(20,(.lst false 129 G.length (lim G))),(21,(.val (.int .i64 n))),(22,(.val (.int .i64 (i+(1:Int)))))], [(.row (.ints .u32 (List.take (zs.length*1) zs ++ [IntKind.u32.wrap J])) 129 .live)]) else none) else none) else none) else none) else (bif decide (zs.length*1≤zs.length)&&aU Tryz.prog (zs.length+1) 129&&true then (bif ai IntKind.i64 (i+(1:Int)) then some (.normal,ar 56 [(1,(.lst false 129 I.length (lim I))),(5,(.sl false 129 0 0 (zs.length+1))),(6,(.val (.int .u64 ((IntKind.u64.wrap (c+G.getD i.toNat (0:Int))).fdiv (4294967296:Int))))),(20,(.lst false 129 G.length (lim G))),(21,(.val (.int .i64 n))),(22,(.val (.int .i64 (i+(1:Int)))))], [(.row (.ints .u32 (List.take (zs.length*1) zs ++ [IntKind.u32.wrap (IntKind.u64.wrap (c+G.getD i.toNat (0:Int)))])) 129 .live)]) else none) else none)) else none) else none) else some ((.exit 0),ar 56 [(1,(.lst false 129 I.length (lim I))),(5,(.sl false 129 0 0 zs.length)),(6,(.val (.int .u64 c))),(20,(.lst false 129 G.length (lim G))),(21,(.val (.int .i64 n))),(22,(.val (.int .i64 i)))], [(.row (.ints .u32 zs) 129 .live)]))):=by kernel_rfl
theorem Ge {I zs:List Int} {c:Int} {G:List Int} {n i:Int} {e:Ex} {T:List AV} {H:Hp} (h:aO Tryz.prog br 118 [1,5,6,20,21,22] (lb 118 gj) (false :: gj) (fO I zs c G n i) (fw I zs c G n i)=some (e,T,H)):V.Ends Tryz.prog false 0 0 (lb 118 gj) (fO I zs c G n i) (fw I zs c G n i) e T H:=
 bF (aJ _) aN mixed Vr h
def vz (I zs:List Int) (c:Int) (G:List Int) (n i:Int):Prop:=
 aI I∧aI G∧I.length≤G.length∧G.length≤17592186044416∧n=G.length∧c=0∧i=0∧zs= []
def ER (I zs:List Int) (c:Int) (G:List Int) (n i:Int) (r:Int×Int×List Int):Prop:=
 aI r.2.2∧r.2.2.length=G.length∧∃ k:Nat,k≤1∧r.1=k∧vL r.2.2+4294967296 ^ G.length*k=vL G+vL I
theorem acA (I G:List Int) (ch:aI I) (b5:aI G) (ct:I.length≤G.length) (hb:G.length≤17592186044416) (d:Nat):∀ (i c:Nat) (out:List Int),i+d=G.length→aI out→out.length=i→c≤1→
  vL out+4294967296 ^ i*c=vL (G.take i)+vL (I.take i)→
  ∃ r:Int×Int×List Int,av Tryz.prog (lb 118 gj) (fO I out c G G.length i) (fw I out c G G.length i) (.exit 0) (fO I r.2.2 r.1 G G.length r.2.1) (fw I r.2.2 r.1 G G.length r.2.1)∧
   aI r.2.2∧r.2.2.length=G.length∧∃ k:Nat,k≤1∧r.1=k∧vL r.2.2+4294967296 ^ G.length*k=vL G+vL I:=by
 induction d with
 | zero=>
  intro i c out hi U M a6 aE
  have b4:i=G.length:=by omega
  subst b4
  refine ⟨((c:Int),(G.length:Int),out), .last (Ge ?_) (by grind),U,M,c,a6,rfl, ?_⟩
  ·rw [Pa,dF (show ¬ ((G.length:Int) < G.length) by omega)]
   rfl
  ·rw [aE,List.take_of_length_le (by omega),List.take_of_length_le (by omega)]
 | succ d b0=>
  intro i c out hi U M a6 aE
  have a7:i < G.length:=by omega
  obtain ⟨a,ha,b2,b6⟩:=cH b5 i a7
  have bD:=la G i a7
  rw [b2,Int.toNat_natCast] at bD
  have ab:=Pa I out c G G.length i
  rw [Int.toNat_natCast,b6,dT (show (i:Int) < G.length by omega),dT (show (0:Int)≤(i:Int) by omega),dj (show 0≤(a:Int)∧(a:Int)≤18446744073709551615 by omega),aM (show -9223372036854775808≤(i:Int)+1∧(i:Int)+1≤9223372036854775807 by omega),dT (show out.length*1≤out.length by omega),zT _ (show out.length+1≤35184372088832 by omega),Nat.mul_one,List.take_length] at ab
  have b1:∀ b:Nat,b < 4294967296→vL (I.take (i+1))=vL (I.take i)+4294967296 ^ i*b→
    vL (out ++ [(((c+a+b) % 4294967296:Nat):Int)])+4294967296 ^ (i+1)*((c+a+b) / 4294967296)=vL (G.take (i+1))+vL (I.take (i+1)):=by
   intro b a1 J
   rw [sW,M,Int.toNat_natCast,Nat.pow_succ,bD,J]
   have O:=UF (n:=c+a+b) aE
   grind
  by_cases bx:i < I.length
  ·obtain ⟨b,a1,b3,b7⟩:=cH ch i bx
   have J:=la I i bx
   rw [b3,Int.toNat_natCast] at J
   obtain ⟨r,O,Z⟩:=b0 (i+1) ((c+a+b) / 4294967296) (out ++ [(((c+a+b) % 4294967296:Nat):Int)]) (by omega) (uR.2 ⟨U,by rw [na];exact ⟨lW _,p8⟩⟩) (by simp [M]) (by omega) (b1 b a1 J)
   refine ⟨r, .more (Ge (T:=fO I (out ++ [(((c+a+b) % 4294967296:Nat):Int)]) ((c+a+b) / 4294967296:Nat) G G.length (i+1:Nat)) (H:=fw I (out ++ [(((c+a+b) % 4294967296:Nat):Int)]) ((c+a+b) / 4294967296:Nat) G G.length (i+1:Nat)) ?_) O,Z⟩
   rw [ab,dT (show (i:Int) < I.length by omega),b7,dj (show 0≤(b:Int)∧(b:Int)≤18446744073709551615 by omega),← Int.natCast_add,sU,Nat.mod_eq_of_lt (show c+a < 18446744073709551616 by omega),← Int.natCast_add,sU,Nat.mod_eq_of_lt (show c+a+b < 18446744073709551616 by omega),dH,jK]
   unfold fO fw
   rw [List.length_append]
   rfl
  ·have J:vL (I.take (i+1))=vL (I.take i)+4294967296 ^ i*0:=by rw [List.take_of_length_le (by omega),List.take_of_length_le (by omega)];simp
   obtain ⟨r,O,Z⟩:=b0 (i+1) ((c+a+0) / 4294967296) (out ++ [(((c+a+0) % 4294967296:Nat):Int)]) (by omega) (uR.2 ⟨U,by rw [na];exact ⟨lW _,p8⟩⟩) (by simp [M]) (by omega) (b1 0 (by omega) J)
   refine ⟨r, .more (Ge (T:=fO I (out ++ [(((c+a+0) % 4294967296:Nat):Int)]) ((c+a+0) / 4294967296:Nat) G G.length (i+1:Nat)) (H:=fw I (out ++ [(((c+a+0) % 4294967296:Nat):Int)]) ((c+a+0) / 4294967296:Nat) G G.length (i+1:Nat)) ?_) O,Z⟩
   rw [ab,dF (show ¬ (i:Int) < I.length by omega),← Int.natCast_add,sU,Nat.mod_eq_of_lt (show c+a < 18446744073709551616 by omega),dH,jK]
   unfold fO fw
   rw [List.length_append]
   rfl
theorem aaQ (I zs:List Int) (c:Int) (G:List Int) (n i:Int) (h:vz I zs c G n i):∃ r:Int×Int×List Int,av Tryz.prog (lb 118 gj) (fO I zs c G n i) (fw I zs c G n i) (.exit 0) (fO I r.2.2 r.1 G n r.2.1) (fw I r.2.2 r.1 G n r.2.1)∧ER I zs c G n i r:=by
 obtain ⟨J,M,O,U,rfl,rfl,rfl,rfl⟩:=h
 exact acA I G J M O U G.length 0 0 [] (by omega) p8 rfl (by omega) (by simp [cF])
def Hx (Z:List Int→List Int→Int→List Int→Int→Int→Bool) (O:List Int→List Int→Int→List Int→Int→Int→Int×Int×List Int) (T:List AV) (H:Hp):Option (Bool×Ex×List AV×Hp):=
 match al T 1,al T 5,al T 6,al T 20,al T 21,al T 22,H with
 | .lst false 129 M I, .sl false 129 0 0 U, .val (.int .u64 c), .lst false 129 J G, .val (.int .i64 n), .val (.int .i64 i), [.row (.ints .u32 zs) 129 .live]=>bif T.length==56 then some (okB M I&&okB J G&&decide (U=zs.length)&&Z (rowOf M I) zs c (rowOf J G) n i, .exit 0,fO (rowOf M I) ((O (rowOf M I) zs c (rowOf J G) n i).2.2) ((O (rowOf M I) zs c (rowOf J G) n i).1) (rowOf J G) n ((O (rowOf M I) zs c (rowOf J G) n i).2.1),fw (rowOf M I) ((O (rowOf M I) zs c (rowOf J G) n i).2.2) ((O (rowOf M I) zs c (rowOf J G) n i).1) (rowOf J G) n ((O (rowOf M I) zs c (rowOf J G) n i).2.1)) else none
 | _,_,_,_,_,_,_=>none
def kj (I zs:List Int) (c:Int) (G:List Int) (n i:Int):Int×Int×List Int:=Classical.epsilon fun ρ=>av Tryz.prog (lb 118 gj) (fO I zs c G n i) (fw I zs c G n i) (.exit 0) (fO I (ρ.2.2) (ρ.1) G n (ρ.2.1)) (fw I (ρ.2.2) (ρ.1) G n (ρ.2.1))∧ER I zs c G n i ρ
theorem Ol (I zs:List Int) (c:Int) (G:List Int) (n i:Int) (h:vz I zs c G n i):av Tryz.prog (lb 118 gj) (fO I zs c G n i) (fw I zs c G n i) (.exit 0) (fO I ((kj I zs c G n i).2.2) ((kj I zs c G n i).1) G n ((kj I zs c G n i).2.1)) (fw I ((kj I zs c G n i).2.2) ((kj I zs c G n i).1) G n ((kj I zs c G n i).2.1))∧ER I zs c G n i (kj I zs c G n i):=Classical.epsilon_spec (aaQ I zs c G n i h)
def tQ (I zs:List Int) (c:Int) (G:List Int) (n i:Int):Bool:= @decide (vz I zs c G n i) (Classical.propDecidable _)
theorem Wn (I zs:List Int) (c:Int) (G:List Int) (n i:Int) (h:vz I zs c G n i):tQ I zs c G n i=true:= @decide_eq_true _ (Classical.propDecidable _) h
theorem ags (T:List AV) (H:Hp) (e:Ex) (J:List AV) (I:Hp) (h:Hx tQ kj T H=some (true,e,J,I)):V.Ends Tryz.prog false 0 0 (.loop (lb 118 gj)) T H e J I:=by
 unfold Hx at h
 split at h
 ·rename_i b5 Z b6 c b4 U n i zs ab a7 bx aE a1 a6
  rw [Bool.cond_eq_ite] at h
  split at h
  ·rename_i M
   rw [beq_iff_eq] at M
   simp only [Option.some.injEq,Prod.mk.injEq,Bool.and_eq_true,decide_eq_true_eq] at h
   obtain ⟨⟨⟨⟨k1,b0⟩,b1⟩,b2⟩,rfl,rfl,rfl⟩:=h
   have b3:= @of_decide_eq_true _ (Classical.propDecidable _) b2
   refine Ends.pre (Ol (rowOf b5 Z) zs c (rowOf b4 U) n i b3).1.ends (fun α B w D b7 bD=>bq M (fun p O y G=> ?_) bD)
   simp only [List.mem_cons,List.not_mem_nil,or_false] at O
   rcases O with rfl | rfl | rfl | rfl | rfl | rfl
   ·rw [ab] at G;rw [cA];exact cE cy k1 G
   ·rw [a7] at G;rw [← b1];exact G
   ·rw [bx] at G;exact G
   ·rw [aE] at G;rw [cA];exact cE cy b0 G
   ·rw [a1] at G;exact G
   ·rw [a6] at G;exact G
  ·cases h
 ·cases h
def CT (S:Sg):FuncId→List AV→Option (Bool×AV):=aw 140 (AE S) aK
theorem tf:bf Tryz.prog (CT aa):=(aJ _).add LK
def au (_:FuncId):Bool:=true
def Bh (S:Sg) (c:List Int→List Int→Int→List Int→Int→Int→Bool) (G:List Int→List Int→Int→List Int→Int→Int→Int×Int×List Int):Env:= ⟨CT S,au,mH 118 gj [1,5,6,20,21,22] (Hx c G) aq⟩
theorem OL (S:Sg) (c:List Int→List Int→Int→List Int→Int→Int→Bool) (aE:List Int→List Int→Int→List Int→Int→Int→Int×Int×List Int) (G I:List Int):letI J:=(aE (rowOf G.length (lim G)) [] (0:Int) (rowOf I.length (lim I)) (↑I.length:Int) (0:Int));letI M:=(aE (rowOf I.length (lim I)) [] (0:Int) (rowOf G.length (lim G)) (↑G.length:Int) (0:Int));letI Z:=(List.take (J.snd.snd.length*1) J.snd.snd ++ [IntKind.u32.wrap J.fst]);letI ab:=(List.take (M.snd.snd.length*1) M.snd.snd ++ [IntKind.u32.wrap M.fst]);letI O:=(J.snd.snd.length+1);letI U:=(M.snd.snd.length+1);
  (aF Tryz.prog (Bh S c aE) 10 10 118 [.lst false 129 G.length (lim G), .lst false 129 I.length (lim I)]=(bif decide ((↑G.length:Int) < (↑I.length:Int)) then (bif ai IntKind.i64 ((↑I.length:Int)+(1:Int)) then (bif decide ((4:Int)*((↑I.length:Int)+(1:Int))≤(281474976710656:Int))&&decide ((↑I.length:Int)+(1:Int)≤(9223372036854775807:Int)) then (bif okB G.length (lim G)&&okB I.length (lim I)&&true&&c (rowOf G.length (lim G)) [] (0:Int) (rowOf I.length (lim I)) (↑I.length:Int) (0:Int) then (bif decide (J.snd.snd.length*1≤J.snd.snd.length)&&aU Tryz.prog O 129&&true then (bif decide (0+O*1≤Z.length) then (bif S.bU O (lim Z) then some (.lst false 129 (S.len (S.num O (lim Z))) (S.row (S.num O (lim Z)))) else none) else none) else none) else none) else none) else none) else (bif ai IntKind.i64 ((↑G.length:Int)+(1:Int)) then (bif decide ((4:Int)*((↑G.length:Int)+(1:Int))≤(281474976710656:Int))&&decide ((↑G.length:Int)+(1:Int)≤(9223372036854775807:Int)) then (bif okB I.length (lim I)&&okB G.length (lim G)&&true&&c (rowOf I.length (lim I)) [] (0:Int) (rowOf G.length (lim G)) (↑G.length:Int) (0:Int) then (bif decide (M.snd.snd.length*1≤M.snd.snd.length)&&aU Tryz.prog U 129&&true then (bif decide (0+U*1≤ab.length) then (bif S.bU U (lim ab) then some (.lst false 129 (S.len (S.num U (lim ab))) (S.row (S.num U (lim ab)))) else none) else none) else none) else none) else none) else none))):=by kernel_rfl
def Ap (S:Sg) (args:List AV):Option (Bool×AV):=match args with | [.lst _ 129 m f, .lst _ 129 n g]=>some (S.aV m f&&S.aV n g,S.fX (S.num m f+S.num n g)) | _=>none
theorem acB (G I:List Int) (ab:aI G) (aE:aI I) (bx:G.length≤8796093022208) (bD:I.length≤8796093022208):aF Tryz.prog (Bh aa tQ kj) 10 10 118 [.lst false 129 G.length (lim G), .lst false 129 I.length (lim I)]=some (aa.fX (vL G+vL I)):=by
 have a7:∀ (us vs:List Int),aI us→aI vs→us.length≤vs.length→vs.length≤8796093022208→∃ r:Int×Int×List Int,kj us [] 0 vs vs.length 0=r∧tQ us [] 0 vs vs.length 0=true∧aI (r.2.2 ++ [IntKind.u32.wrap r.1])∧r.2.2.length=vs.length∧vL (r.2.2 ++ [IntKind.u32.wrap r.1])=vL vs+vL us:=by
  intro us vs b0 b1 J hb
  have a6:vz us [] 0 vs vs.length 0:= ⟨b0,b1,J,by omega,rfl,rfl,rfl,rfl⟩
  obtain ⟨_,O,M,k,Z,a1,U⟩:=Ol us [] 0 vs vs.length 0 a6
  have e:IntKind.u32.wrap (kj us [] 0 vs vs.length 0).1=(k:Int):=by rw [a1,dH,Nat.mod_eq_of_lt (by omega)]
  refine ⟨_,rfl,Wn _ _ _ _ _ _ a6, ?_,M, ?_⟩
  ·rw [e];exact uR.2 ⟨O,by rw [na];exact ⟨by omega,p8⟩⟩
  ·rw [e,sW,M,Int.toNat_natCast,U]
 by_cases h:G.length < I.length
 ·obtain ⟨r,O,M,Z,a1,U⟩:=a7 G I ab aE (by omega) bD
  have J:(r.2.2 ++ [IntKind.u32.wrap r.1]).length=r.2.2.length+1:=by simp
  rw [OL,dT (show (G.length:Int) < I.length by omega)]
  simp only [cond_true,kE,Nat.mul_one,Nat.zero_add]
  rw [O,aM (show -9223372036854775808≤(I.length:Int)+1∧(I.length:Int)+1≤9223372036854775807 by omega),dT (show (4:Int)*((I.length:Int)+1)≤281474976710656 by omega),dT (show (I.length:Int)+1≤9223372036854775807 by omega),jg ab,jg aE,M]
  rw [List.take_length,J,dT (show r.2.2.length≤r.2.2.length by omega),zT _ (by omega),dT (show r.2.2.length+1≤r.2.2.length+1 by omega),← J,l9 Z (by omega),lZ,U,Nat.add_comm]
  rfl
 ·obtain ⟨r,O,M,Z,a1,U⟩:=a7 I G aE ab (by omega) bx
  have J:(r.2.2 ++ [IntKind.u32.wrap r.1]).length=r.2.2.length+1:=by simp
  rw [OL,dF (show ¬ (G.length:Int) < I.length by omega)]
  simp only [cond_false,kE,Nat.mul_one,Nat.zero_add]
  rw [O,aM (show -9223372036854775808≤(G.length:Int)+1∧(G.length:Int)+1≤9223372036854775807 by omega),dT (show (4:Int)*((G.length:Int)+1)≤281474976710656 by omega),dT (show (G.length:Int)+1≤9223372036854775807 by omega),jg ab,jg aE,M]
  rw [List.take_length,J,dT (show r.2.2.length≤r.2.2.length by omega),zT _ (by omega),dT (show r.2.2.length+1≤r.2.2.length+1 by omega),← J,l9 Z (by omega),lZ,U]
  rfl
theorem Lv:Entry Tryz.prog 118 (Ap aa):=by
 refine iI (E:=Bh aa tQ kj) (u:=10) (d:=10) tf (aB.none.nT TM ags).ok (by kernel_rfl) (fun args r h=> ?_)
 unfold Ap at h
 split at h
 ·simp only [Option.some.injEq,Prod.mk.injEq,Bool.and_eq_true] at h
  obtain ⟨⟨ab,aE⟩,rfl⟩:=h
  obtain ⟨I,J,M,bx⟩:=rY ab
  obtain ⟨O,U,Z,bD⟩:=rY aE
  refine ⟨_,_,acB _ _ J U M Z,fun B w b0 G=> ?_,fun B w y G=>by grind⟩
  obtain ⟨y,zs,rfl,q1,q2⟩:=G
  obtain ⟨a7,zs,rfl,a1,a6⟩:=q2
  exact ⟨y,_,rfl,lu I q1,a7,_,rfl,lu O a1,a6⟩
 ·cases h
end
end Go.Proofs.YtamcpiicmfielaaGreat.L
namespace Go.Proofs.YtamcpiicmfielaaGreat.L
open Go Go.V Go.RowKit Go.Proofs.YtamcpiicmfielaaGreat.Sp Go.Proofs.YtamcpiicmfielaaGreat.F Go.Proofs.YtamcpiicmfielaaGreatW.PrintWords
open Go.Proofs (Tryz.prog)
noncomputable section
def bZ (x:Int):Bool:=decide (0≤x)&&decide (x < 4294967296)
def AA (args:List AV):Option (Bool×AV):=match args with
 | [.val (.int .u32 x), .val (.int .u32 y), .val (.int .u32 b)]=>some (bZ x&&bZ y&&decide (0≤b)&&decide (b≤1), .tup [.val (.int .u32 ((x+8589934592 - y - b) % 4294967296)), .val (.int .u32 (if x < y+b then 1 else 0))])
 | _=>none
theorem afJ (x y b:Int):aF Tryz.prog ⟨aK,au,aq⟩ 10 10 154 [.val (.int .u32 x), .val (.int .u32 y), .val (.int .u32 b)]=
  (some (.tup [(.val (.int .u32 (IntKind.u32.wrap (IntKind.u32.wrap (x - y) - b)))),(.val (.int .u32 ((cm BinOp.or IntKind.u32 (cm BinOp.and IntKind.u32 (IntKind.u32.wrap (↑(BitVec.ofInt (32:Nat) (4294967295:Int) ^^^ BitVec.ofInt (32:Nat) x).toNat:Int)) y) (cm BinOp.and IntKind.u32 (IntKind.u32.wrap (↑(BitVec.ofInt (32:Nat) (4294967295:Int) ^^^ BitVec.ofInt (32:Nat) (cm BinOp.xor IntKind.u32 x y)).toNat:Int)) (IntKind.u32.wrap (IntKind.u32.wrap (x - y) - b)))).fdiv (2147483648:Int))))])):=by kernel_rfl
theorem j4 {x:Int} (h:bZ x=true):∃ a:Nat,a < 4294967296∧x=a:=by
 unfold bZ at h
 rw [Bool.and_eq_true,decide_eq_true_eq,decide_eq_true_eq] at h
 exact ⟨x.toNat,by omega,by omega⟩
theorem fz {a:Nat} (h:a < 4294967296):bZ (a:Int)=true:=by
 unfold bZ
 grind
theorem LI:Entry Tryz.prog 154 AA:=by
 refine bg (E:= ⟨aK,au,aq⟩) (u:=10) (d:=10) (aJ _) aN mixed (by kernel_rfl) (fun args r h=> ?_)
 unfold AA at h
 split at h
 ·rename_i x y b
  simp only [Option.some.injEq,Prod.mk.injEq,Bool.and_eq_true,decide_eq_true_eq] at h
  obtain ⟨⟨⟨⟨M,O⟩,ab⟩,aE⟩,rfl⟩:=h
  obtain ⟨x,U,rfl⟩:=j4 M
  obtain ⟨y,Z,rfl⟩:=j4 O
  obtain ⟨b,rfl⟩:∃ c:Nat,b=c:= ⟨b.toNat,by omega⟩
  have h:=afI x y b U Z (by omega)
  unfold CF.f at h
  simp only [Option.some.injEq,Prod.mk.injEq] at h
  obtain ⟨k1,G⟩:=h
  have e1:IntKind.u32.wrap (IntKind.u32.wrap ((x:Int) - y) - b)=(((x:Int) - y) % 4294967296 - b) % 4294967296:=by rw [IntKind.wrap_u32,IntKind.wrap_u32]
  rw [afJ,e1]
  rw [k1] at G ⊢
  refine congrArg some ?_
  have I:(((x+8589934592 - y - b) % 4294967296:Nat):Int)=((x:Int)+8589934592 - y - b) % 4294967296:=by omega
  have J:(((if x < y+b then 1 else 0:Nat)):Int)=if (x:Int) < (y:Int)+b then 1 else 0:=by grind
  rw [J] at G
  rw [← I,← G]
  rw [Int.fdiv_eq_ediv_of_nonneg _ (by decide)]
  rfl
 ·cases h
def q7:Env:= ⟨aw 154 AA aK,au,aq⟩
theorem Iz:bf Tryz.prog q7.C:=(aJ _).add LI
abbrev eG:List Bool:= [false,true,false,true,true,true]
def fN (I zs:List Int) (c:Int) (G:List Int) (n i:Int):List AV:=ar 41 [(1, .lst false 129 I.length (lim I)),(5, .sl false 129 0 0 zs.length),(6, .val (.int .u32 c)),(13, .lst false 129 G.length (lim G)),(14, .val (.int .i64 n)),(15, .val (.int .i64 i))]
def fu (I zs:List Int) (c:Int) (G:List Int) (n i:Int):Hp:= [.row (.ints .u32 zs) 129 .live]
theorem TG:aH Tryz.prog 119 eG=some (.loop (lb 119 eG)):=by kernel_rfl
theorem Vm:aH Tryz.prog 119 (false :: eG)=some (lb 119 eG):=by kernel_rfl
theorem O7 (I zs:List Int) (c:Int) (G:List Int) (n i:Int):
  (aO Tryz.prog q7 119 [1,5,6,13,14,15] (lb 119 eG) (false :: eG) (fN I zs c G n i) (fu I zs c G n i)=(bif decide (i < n) then (bif decide ((0:Int)≤i)&&decide (i < (↑G.length:Int)) then (bif decide (i < (↑I.length:Int)) then (bif decide ((0:Int)≤i)&&decide (i < (↑I.length:Int)) then (bif bZ (G.getD i.toNat (0:Int))&&bZ (I.getD i.toNat (0:Int))&&decide ((0:Int)≤c)&&decide (c≤(1:Int)) then (bif decide ((0:Int)≤i)&&decide (i < (↑zs.length:Int)) then (bif decide (0+i.toNat*1 < zs.length) then (bif ai IntKind.i64 (i+(1:Int)) then some (.normal,ar 41 [(1,(.lst false 129 I.length (lim I))),(5,(.sl false 129 0 0 zs.length)),(6,(.val (.int .u32 (if G.getD i.toNat (0:Int) < I.getD i.toNat (0:Int)+c then (1:Int) else (0:Int))))),(13,(.lst false 129 G.length (lim G))),(14,(.val (.int .i64 n))),(15,(.val (.int .i64 (i+(1:Int)))))], [(.row (.ints .u32 (zs.set (0+i.toNat*1) ((G.getD i.toNat (0:Int)+(8589934592:Int) - I.getD i.toNat (0:Int) - c) % (4294967296:Int)))) 129 .live)]) else none) else none) else none) else none) else none) else (bif bZ (G.getD i.toNat (0:Int))&&true&&decide ((0:Int)≤c)&&decide (c≤(1:Int)) then (bif decide ((0:Int)≤i)&&decide (i < (↑zs.length:Int)) then (bif decide (0+i.toNat*1 < zs.length) then (bif ai IntKind.i64 (i+(1:Int)) then some (.normal,ar 41 [(1,(.lst false 129 I.length (lim I))),(5,(.sl false 129 0 0 zs.length)),(6,(.val (.int .u32 (if G.getD i.toNat (0:Int) < (0:Int)+c then (1:Int) else (0:Int))))),(13,(.lst false 129 G.length (lim G))),(14,(.val (.int .i64 n))),(15,(.val (.int .i64 (i+(1:Int)))))], [(.row (.ints .u32 (zs.set (0+i.toNat*1) ((G.getD i.toNat (0:Int)+(8589934592:Int) - (0:Int) - c) % (4294967296:Int)))) 129 .live)]) else none) else none) else none) else none)) else none) else some ((.exit 0),ar 41 [(1,(.lst false 129 I.length (lim I))),(5,(.sl false 129 0 0 zs.length)),(6,(.val (.int .u32 c))),(13,(.lst false 129 G.length (lim G))),(14,(.val (.int .i64 n))),(15,(.val (.int .i64 i)))], [(.row (.ints .u32 zs) 129 .live)]))):=by kernel_rfl
theorem P6 {I zs:List Int} {c:Int} {G:List Int} {n i:Int} {e:Ex} {T:List AV} {H:Hp} (h:aO Tryz.prog q7 119 [1,5,6,13,14,15] (lb 119 eG) (false :: eG) (fN I zs c G n i) (fu I zs c G n i)=some (e,T,H)):V.Ends Tryz.prog false 0 0 (lb 119 eG) (fN I zs c G n i) (fu I zs c G n i) e T H:=
 bF Iz aN mixed Vm h
def vu (I zs:List Int) (c:Int) (G:List Int) (n i:Int):Prop:=
 aI I∧aI G∧aI zs∧zs.length=G.length∧I.length≤G.length∧vL I≤vL G∧G.length≤17592186044416∧n=G.length∧c=0∧i=0
def EM (I zs:List Int) (c:Int) (G:List Int) (n i:Int) (r:Int×Int×List Int):Prop:=
 aI r.2.2∧r.2.2.length=G.length∧vL r.2.2=vL G - vL I
theorem abu (I G:List Int) (ch:aI I) (b7:aI G) (ea:I.length≤G.length) (dy:vL I≤vL G) (hb:G.length≤17592186044416) (d:Nat):∀ (i c:Nat) (out:List Int),i+d=G.length→aI out→out.length=G.length→c≤1→
  vL (out.take i)+vL (I.take i)=vL (G.take i)+4294967296 ^ i*c→
  ∃ r:Int×Int×List Int,av Tryz.prog (lb 119 eG) (fN I out c G G.length i) (fu I out c G G.length i) (.exit 0) (fN I r.2.2 r.1 G G.length r.2.1) (fu I r.2.2 r.1 G G.length r.2.1)∧
   aI r.2.2∧r.2.2.length=G.length∧vL r.2.2=vL G - vL I:=by
 induction d with
 | zero=>
  intro i c out hi U Z b1 ab
  have b6:i=G.length:=by omega
  subst b6
  rw [List.take_of_length_le (by omega),List.take_of_length_le (by omega),List.take_of_length_le (by omega)] at ab
  have O:=dP U
  rw [Z] at O
  have b2:c=0:=by
   grind
  rw [b2] at ab
  refine ⟨((c:Int),(G.length:Int),out), .last (P6 ?_) (by grind),U,Z,by grind⟩
  rw [O7,dF (show ¬ ((G.length:Int) < G.length) by omega)]
  rfl
 | succ d c6=>
  intro i c out hi U Z b1 ab
  have aE:i < G.length:=by omega
  obtain ⟨a,ha,b4,c0⟩:=cH b7 i aE
  have a7:=la G i aE
  rw [b4,Int.toNat_natCast] at a7
  have c7:∀ b:Nat,b < 4294967296→vL (I.take (i+1))=vL (I.take i)+4294967296 ^ i*b→
    vL ((out.set i (((a+8589934592 - b - c) % 4294967296:Nat):Int)).take (i+1))+vL (I.take (i+1))=vL (G.take (i+1))+4294967296 ^ (i+1)*(if a < b+c then 1 else 0):=by
   intro b M ct
   rw [AG _ _ (by omega),sW,List.length_take,Nat.min_eq_left (by omega),Int.toNat_natCast,ct,a7,Nat.pow_succ]
   have dx:(a+8589934592 - b - c) % 4294967296+b+c=a+4294967296*(if a < b+c then 1 else 0):=by grind
   grind
  have b3:∀ b:Nat,((if a < b+c then 1 else 0:Nat))≤1:=fun b=>by grind
  have a6:=O7 I out c G G.length i
  have go:∀ b:Nat,b < 4294967296→vL (I.take (i+1))=vL (I.take i)+4294967296 ^ i*b→
    aO Tryz.prog q7 119 [1,5,6,13,14,15] (lb 119 eG) (false :: eG) (fN I out c G G.length i) (fu I out c G G.length i)=some (.normal,ar 41 [(1, .lst false 129 I.length (lim I)),(5, .sl false 129 0 0 out.length),(6, .val (.int .u32 (if (a:Int) < (b:Int)+c then 1 else 0))),(13, .lst false 129 G.length (lim G)),(14, .val (.int .i64 G.length)),(15, .val (.int .i64 ((i:Int)+1)))], [.row (.ints .u32 (out.set (0+i*1) (((a:Int)+8589934592 - b - c) % 4294967296))) 129 .live])→
    ∃ r:Int×Int×List Int,av Tryz.prog (lb 119 eG) (fN I out c G G.length i) (fu I out c G G.length i) (.exit 0) (fN I r.2.2 r.1 G G.length r.2.1) (fu I r.2.2 r.1 G G.length r.2.1)∧
   aI r.2.2∧r.2.2.length=G.length∧vL r.2.2=vL G - vL I:=by
   intro b M J c4
   obtain ⟨r,O,b0⟩:=c6 (i+1) _ (out.set i (((a+8589934592 - b - c) % 4294967296:Nat):Int)) (by omega) (fC U _ _ (lW _).1 (lW _).2) (by grind) (b3 b) (c7 b M J)
   have bx:(((a+8589934592 - b - c) % 4294967296:Nat):Int)=((a:Int)+8589934592 - b - c) % 4294967296:=by omega
   have bD:(((if a < b+c then 1 else 0:Nat)):Int)=if (a:Int) < (b:Int)+c then 1 else 0:=by split <;> split <;> omega
   rw [bx,bD] at O
   refine ⟨r, .more (P6 ?_) O,b0⟩
   rw [c4,Nat.zero_add,Nat.mul_one]
   unfold fN fu
   grind
  have c5:ai .i64 ((i:Int)+1)=true:=aM (by omega)
  rw [Int.toNat_natCast,c0,dT (show (i:Int) < G.length by omega),dT (show (0:Int)≤(i:Int) by omega),c5,dT (show (i:Int) < (out.length:Int) by omega),dT (show 0+i*1 < out.length by omega),fz ha,dT (show (0:Int)≤(c:Int) by omega),dT (show (c:Int)≤1 by omega)] at a6
  by_cases a1:i < I.length
  ·obtain ⟨b,M,b5,c3⟩:=cH ch i a1
   have J:=la I i a1
   rw [b5,Int.toNat_natCast] at J
   refine go b M J ?_
   rw [a6,dT (show (i:Int) < I.length by omega),c3,fz M]
   rfl
  ·have J:vL (I.take (i+1))=vL (I.take i)+4294967296 ^ i*0:=by rw [List.take_of_length_le (by omega),List.take_of_length_le (by omega)];simp
   refine go 0 (by omega) J ?_
   grind
theorem aaK (I zs:List Int) (c:Int) (G:List Int) (n i:Int) (h:vu I zs c G n i):∃ r:Int×Int×List Int,av Tryz.prog (lb 119 eG) (fN I zs c G n i) (fu I zs c G n i) (.exit 0) (fN I r.2.2 r.1 G n r.2.1) (fu I r.2.2 r.1 G n r.2.1)∧EM I zs c G n i r:=by
 obtain ⟨J,M,O,U,Z,ab,aE,rfl,rfl,rfl⟩:=h
 exact abu I G J M Z ab aE G.length 0 0 zs (by omega) O U (by omega) (by simp [cF])
def Ho (Z:List Int→List Int→Int→List Int→Int→Int→Bool) (O:List Int→List Int→Int→List Int→Int→Int→Int×Int×List Int) (T:List AV) (H:Hp):Option (Bool×Ex×List AV×Hp):=
 match al T 1,al T 5,al T 6,al T 13,al T 14,al T 15,H with
 | .lst false 129 M I, .sl false 129 0 0 U, .val (.int .u32 c), .lst false 129 J G, .val (.int .i64 n), .val (.int .i64 i), [.row (.ints .u32 zs) 129 .live]=>bif T.length==41 then some (okB M I&&okB J G&&decide (U=zs.length)&&Z (rowOf M I) zs c (rowOf J G) n i, .exit 0,fN (rowOf M I) ((O (rowOf M I) zs c (rowOf J G) n i).2.2) ((O (rowOf M I) zs c (rowOf J G) n i).1) (rowOf J G) n ((O (rowOf M I) zs c (rowOf J G) n i).2.1),fu (rowOf M I) ((O (rowOf M I) zs c (rowOf J G) n i).2.2) ((O (rowOf M I) zs c (rowOf J G) n i).1) (rowOf J G) n ((O (rowOf M I) zs c (rowOf J G) n i).2.1)) else none
 | _,_,_,_,_,_,_=>none
def lB (I zs:List Int) (c:Int) (G:List Int) (n i:Int):Int×Int×List Int:=Classical.epsilon fun ρ=>av Tryz.prog (lb 119 eG) (fN I zs c G n i) (fu I zs c G n i) (.exit 0) (fN I (ρ.2.2) (ρ.1) G n (ρ.2.1)) (fu I (ρ.2.2) (ρ.1) G n (ρ.2.1))∧EM I zs c G n i ρ
theorem Og (I zs:List Int) (c:Int) (G:List Int) (n i:Int) (h:vu I zs c G n i):av Tryz.prog (lb 119 eG) (fN I zs c G n i) (fu I zs c G n i) (.exit 0) (fN I ((lB I zs c G n i).2.2) ((lB I zs c G n i).1) G n ((lB I zs c G n i).2.1)) (fu I ((lB I zs c G n i).2.2) ((lB I zs c G n i).1) G n ((lB I zs c G n i).2.1))∧EM I zs c G n i (lB I zs c G n i):=Classical.epsilon_spec (aaK I zs c G n i h)
def x9 (I zs:List Int) (c:Int) (G:List Int) (n i:Int):Bool:= @decide (vu I zs c G n i) (Classical.propDecidable _)
theorem Wi (I zs:List Int) (c:Int) (G:List Int) (n i:Int) (h:vu I zs c G n i):x9 I zs c G n i=true:= @decide_eq_true _ (Classical.propDecidable _) h
theorem agm (T:List AV) (H:Hp) (e:Ex) (J:List AV) (I:Hp) (h:Ho x9 lB T H=some (true,e,J,I)):V.Ends Tryz.prog false 0 0 (.loop (lb 119 eG)) T H e J I:=by
 unfold Ho at h
 split at h
 ·rename_i b5 Z b6 c b4 U n i zs ab a7 bx aE a1 a6
  rw [Bool.cond_eq_ite] at h
  split at h
  ·rename_i M
   rw [beq_iff_eq] at M
   simp only [Option.some.injEq,Prod.mk.injEq,Bool.and_eq_true,decide_eq_true_eq] at h
   obtain ⟨⟨⟨⟨k1,b0⟩,b1⟩,b2⟩,rfl,rfl,rfl⟩:=h
   have b3:= @of_decide_eq_true _ (Classical.propDecidable _) b2
   refine Ends.pre (Og (rowOf b5 Z) zs c (rowOf b4 U) n i b3).1.ends (fun α B w D b7 bD=>bq M (fun p O y G=> ?_) bD)
   simp only [List.mem_cons,List.not_mem_nil,or_false] at O
   rcases O with rfl | rfl | rfl | rfl | rfl | rfl
   ·rw [ab] at G;rw [cA];exact cE cy k1 G
   ·rw [a7] at G;rw [← b1];exact G
   ·rw [bx] at G;exact G
   ·rw [aE] at G;rw [cA];exact cE cy b0 G
   ·rw [a1] at G;exact G
   ·rw [a6] at G;exact G
  ·cases h
 ·cases h
def IF (S:Sg) (G:List Int→List Int→Int→List Int→Int→Int→Bool) (I:List Int→List Int→Int→List Int→Int→Int→Int×Int×List Int):Env:= ⟨CT S,au,mH 119 eG [1,5,6,13,14,15] (Ho G I) aq⟩
theorem abt (S:Sg) (O:List Int→List Int→Int→List Int→Int→Int→Bool) (U:List Int→List Int→Int→List Int→Int→Int→Int×Int×List Int) (G J:List Int):letI M:=(List.replicate (↑G.length:Int).toNat (0:Int));letI I:=(U (rowOf J.length (lim J)) M (0:Int) (rowOf G.length (lim G)) (↑G.length:Int) (0:Int));
  (aF Tryz.prog (IF S O U) 10 10 119 [.lst false 129 G.length (lim G), .lst false 129 J.length (lim J)]=(bif decide ((↑G.length:Int)≤(↑G.length:Int))&&decide ((4:Int)*(↑G.length:Int)≤(281474976710656:Int))&&decide ((↑G.length:Int)≤(9223372036854775807:Int)) then (bif okB J.length (lim J)&&okB G.length (lim G)&&decide ((↑G.length:Int).toNat=M.length)&&O (rowOf J.length (lim J)) M (0:Int) (rowOf G.length (lim G)) (↑G.length:Int) (0:Int) then (bif decide (0+I.snd.snd.length*1≤I.snd.snd.length) then (bif S.bU I.snd.snd.length (lim I.snd.snd) then some (.lst false 129 (S.len (S.num I.snd.snd.length (lim I.snd.snd))) (S.row (S.num I.snd.snd.length (lim I.snd.snd)))) else none) else none) else none) else none)):=by kernel_rfl
def GG (S:Sg) (args:List AV):Option (Bool×AV):=match args with | [.lst _ 129 m f, .lst _ 129 n g]=>some (S.can m f&&S.can n g&&decide (S.num n g≤S.num m f),S.fX (S.num m f - S.num n g)) | _=>none
theorem XT:Entry Tryz.prog 119 (GG aa):=by
 refine iI (E:=IF aa x9 lB) (u:=10) (d:=10) tf (aB.none.nT TG agm).ok (by kernel_rfl) (fun args r h=> ?_)
 unfold GG at h
 split at h
 ·rename_i fl m f c0 n g
  simp only [Option.some.injEq,Prod.mk.injEq,Bool.and_eq_true,decide_eq_true_eq] at h
  obtain ⟨⟨⟨b0,b1⟩,b2⟩,rfl⟩:=h
  obtain ⟨U,J,Z,ab,aE⟩:=tC b0
  obtain ⟨a1,M,ch,a6,a7⟩:=tC b1
  have b4:(rowOf n g).length≤(rowOf m f).length:=by
   rw [a7,aE];exact lk (Nat.lt_of_le_of_lt b2 (lX (Nat.le_refl _)))
  have b3:vL (rowOf n g)≤vL (rowOf m f):=by grind
  have O:vu (rowOf n g) (List.replicate (rowOf m f).length 0) 0 (rowOf m f) (rowOf m f).length 0:= ⟨M,J,lv _,by simp,b4,b3,Z,rfl,rfl,rfl⟩
  obtain ⟨_,bx,ct,bD⟩:=Og _ _ _ _ _ _ O
  have G:=abt aa x9 lB (rowOf m f) (rowOf n g)
  simp only [kE,Nat.mul_one,Nat.zero_add,Int.toNat_natCast,List.length_replicate,eq_self,decide_true] at G
  rw [Wi _ _ _ _ _ _ O] at G
  generalize lB (rowOf n g) (List.replicate (rowOf m f).length 0) 0 (rowOf m f) (rowOf m f).length 0=r at*
  rw [jg J,jg M,dT (show ((rowOf m f).length:Int)≤((rowOf m f).length:Int) by omega),dT (show (4:Int)*((rowOf m f).length:Int)≤281474976710656 by omega),dT (show ((rowOf m f).length:Int)≤9223372036854775807 by omega),dT (show r.2.2.length≤r.2.2.length by omega),l9 bx (by omega),lZ,bD] at G
  refine ⟨_,_,G,fun B w c3 I=> ?_,fun B w y I=>by rw [ab,a6];exact I⟩
  obtain ⟨y,zs,rfl,q1,q2⟩:=I
  obtain ⟨b7,zs,rfl,b5,b6⟩:=q2
  exact ⟨y,_,rfl,lu U q1,b7,_,rfl,lu a1 b5,b6⟩
 ·cases h
end
end Go.Proofs.YtamcpiicmfielaaGreat.L
namespace Go.Proofs.YtamcpiicmfielaaGreat.L
open Go Go.V Go.RowKit Go.Proofs.YtamcpiicmfielaaGreat.Sp Go.Proofs.YtamcpiicmfielaaGreat.F Go.Proofs.YtamcpiicmfielaaGreatW.PrintWords
open Go.Proofs (Tryz.prog)
noncomputable section
abbrev gD:List Bool:= [false,true,false,true,true,false,false,true,true,false,false,true,false,true,true]
def jA (I zs:List Int) (j x c:Int) (G:List Int) (n k:Int) (us:List Int) (m i:Int):List AV:=ar 67 [(1, .lst false 129 I.length (lim I)),(5, .sl false 129 0 0 zs.length),(6, .val (.int .i64 j)),(7, .val (.int .u32 x)),(8, .val (.int .u64 c)),(17, .lst false 129 G.length (lim G)),(18, .val (.int .i64 n)),(19, .val (.int .i64 k)),(24, .lst false 129 us.length (lim us)),(25, .val (.int .i64 m)),(26, .val (.int .i64 i))]
def ja (I zs:List Int) (j x c:Int) (G:List Int) (n k:Int) (us:List Int) (m i:Int):Hp:= [.row (.ints .u32 zs) 129 .live]
theorem Ue:aH Tryz.prog 109 gD=some (.loop (lb 109 gD)):=by kernel_rfl
theorem VP:aH Tryz.prog 109 (false :: gD)=some (lb 109 gD):=by kernel_rfl
theorem Pu (I zs:List Int) (j x c:Int) (G:List Int) (n k:Int) (us:List Int) (m i:Int):letI J:=(IntKind.u64.wrap (c+IntKind.u64.wrap (IntKind.u64.wrap (x*us.getD i.toNat (0:Int))+zs.getD (0+(j+i).toNat*1) (0:Int))));
  (aO Tryz.prog br 109 [1,5,6,7,8,17,18,19,24,25,26] (lb 109 gD) (false :: gD) (jA I zs j x c G n k us m i) (ja I zs j x c G n k us m i)=(bif decide (i < m) then (bif decide ((0:Int)≤i)&&decide (i < (↑us.length:Int)) then (bif ai IntKind.u64 x then (bif ai IntKind.u64 (us.getD i.toNat (0:Int)) then (bif ai IntKind.i64 (j+i) then (bif decide ((0:Int)≤j+i)&&decide (j+i < (↑zs.length:Int)) then (bif decide (0+(j+i).toNat*1 < zs.length) then (bif ai IntKind.u64 (zs.getD (0+(j+i).toNat*1) (0:Int)) then (bif ai IntKind.i64 (j+i) then (bif decide ((0:Int)≤j+i)&&decide (j+i < (↑zs.length:Int)) then (bif decide (0+(j+i).toNat*1 < zs.length) then (bif ai IntKind.i64 (i+(1:Int)) then some (.normal,ar 67 [(1,(.lst false 129 I.length (lim I))),(5,(.sl false 129 0 0 zs.length)),(6,(.val (.int .i64 j))),(7,(.val (.int .u32 x))),(8,(.val (.int .u64 (J.fdiv (4294967296:Int))))),(17,(.lst false 129 G.length (lim G))),(18,(.val (.int .i64 n))),(19,(.val (.int .i64 k))),(24,(.lst false 129 us.length (lim us))),(25,(.val (.int .i64 m))),(26,(.val (.int .i64 (i+(1:Int)))))], [(.row (.ints .u32 (zs.set (0+(j+i).toNat*1) (IntKind.u32.wrap J))) 129 .live)]) else none) else none) else none) else none) else none) else none) else none) else none) else none) else none) else none) else some ((.exit 2),ar 67 [(1,(.lst false 129 I.length (lim I))),(5,(.sl false 129 0 0 zs.length)),(6,(.val (.int .i64 j))),(7,(.val (.int .u32 x))),(8,(.val (.int .u64 c))),(17,(.lst false 129 G.length (lim G))),(18,(.val (.int .i64 n))),(19,(.val (.int .i64 k))),(24,(.lst false 129 us.length (lim us))),(25,(.val (.int .i64 m))),(26,(.val (.int .i64 i)))], [(.row (.ints .u32 zs) 129 .live)]))):=by kernel_rfl
theorem Qu {I zs:List Int} {j x c:Int} {G:List Int} {n k:Int} {us:List Int} {m i:Int} {e:Ex} {T:List AV} {H:Hp} (h:aO Tryz.prog br 109 [1,5,6,7,8,17,18,19,24,25,26] (lb 109 gD) (false :: gD) (jA I zs j x c G n k us m i) (ja I zs j x c G n k us m i)=some (e,T,H)):V.Ends Tryz.prog false 0 0 (lb 109 gD) (jA I zs j x c G n k us m i) (ja I zs j x c G n k us m i) e T H:=
 bF (aJ _) aN mixed VP h
def vX (I zs:List Int) (j x c:Int) (G:List Int) (n k:Int) (us:List Int) (m i:Int):Prop:=
 aI I∧aI zs∧aI G∧aI us∧zs.length≤17592186044416∧m=us.length∧i=0∧c=0∧bZ x=true∧∃ a:Nat,j=a∧a+us.length < zs.length
def E9 (I zs:List Int) (j x c:Int) (G:List Int) (n k:Int) (us:List Int) (m i:Int) (r:Int×Int×List Int):Prop:=
 aI r.2.2∧r.2.2.length=zs.length∧r.2.2.getD (j.toNat+us.length) 0=zs.getD (j.toNat+us.length) 0∧∃ q:Nat,q < 4294967296∧r.1=q∧vL r.2.2+4294967296 ^ (j.toNat+us.length)*q=vL zs+4294967296 ^ j.toNat*(x.toNat*vL us)
theorem afY (I G us:List Int) (n k:Int) (ch:aI us) (j a L V z:Nat) (ha:a < 4294967296) (c4:L≤17592186044416) (c6:j+us.length < L) (d:Nat):∀ (i c:Nat) (out:List Int),i+d=us.length→aI out→out.length=L→c < 4294967296→out.getD (j+us.length) 0=z→
  dQ (vL out+4294967296 ^ (j+i)*c=V+4294967296 ^ j*(a*vL (us.take i)))→
  ∃ r:Int×Int×List Int,av Tryz.prog (lb 109 gD) (jA I out j a c G n k us us.length i) (ja I out j a c G n k us us.length i) (.exit 2) (jA I r.2.2 j a r.1 G n k us us.length r.2.1) (ja I r.2.2 j a r.1 G n k us us.length r.2.1)∧
   aI r.2.2∧r.2.2.length=L∧r.2.2.getD (j+us.length) 0=z∧∃ q:Nat,q < 4294967296∧r.1=q∧vL r.2.2+4294967296 ^ (j+us.length)*q=V+4294967296 ^ j*(a*vL us):=by
 induction d with
 | zero=>
  intro i c out hi M a7 a1 b0 bD
  have b4:i=us.length:=by omega
  subst b4
  refine ⟨((c:Int),(us.length:Int),out), .last (Qu ?_) (by grind),M,a7,b0,c,a1,rfl, ?_⟩
  ·rw [Pu,dF (show ¬ ((us.length:Int) < us.length) by omega)]
   rfl
  ·have:=bD.out
   grind
 | succ d b1=>
  intro i c out hi M a7 a1 b0 Z
  have a6:i < us.length:=by omega
  obtain ⟨b,hb,b2,b5⟩:=cH ch i a6
  have O:=dQ.mk (la us i a6)
  rw [b2,Int.toNat_natCast] at O
  have U:j+i < out.length:=by omega
  obtain ⟨o,c7,b3,b6⟩:=cH M (j+i) U
  have c5:a*b≤4294967295*4294967295:=Nat.mul_le_mul (by omega) (by omega)
  have J:=dQ.mk (oX out (j+i) U (((c+(a*b+o)) % 4294967296:Nat):Int))
  rw [b3] at J
  simp only [Int.toNat_natCast] at J
  obtain ⟨r,ab,aE⟩:=b1 (i+1) ((c+(a*b+o)) / 4294967296) (out.set (j+i) (((c+(a*b+o)) % 4294967296:Nat):Int)) (by omega) (fC M _ _ (lW _).1 (lW _).2) (by grind) (by omega) (by
   grind) (by
   have bD:=Z.out
   have b7:=O.out
   have dx:=J.out
   constructor
   rw [b7,show j+(i+1)=(j+i)+1 from rfl,Nat.pow_succ]
   have c3:4294967296 ^ (j+i)*((c+(a*b+o)) % 4294967296)+4294967296 ^ (j+i)*4294967296*((c+(a*b+o)) / 4294967296)=4294967296 ^ (j+i)*(c+(a*b+o)):=by
    rw [Nat.mul_assoc,← Nat.mul_add,Nat.mod_add_div]
   grind)
  refine ⟨r, .more (Qu ?_) ab,aE⟩
  clear ab aE Z O J b1
  have bx:=Pu I out j a c G n k us us.length i
  have e1:(j:Int)+(i:Int)=((j+i:Nat):Int):=by omega
  have ct:ai .i64 ((i:Int)+1)=true:=aM (by omega)
  have c0:ai .i64 ((j+i:Nat):Int)=true:=aM (by omega)
  rw [e1,Int.toNat_natCast,Int.toNat_natCast,b5,Nat.zero_add,Nat.mul_one,b6,ct,c0,dT (show (i:Int) < us.length by omega),dT (show (0:Int)≤(i:Int) by omega),dT (show (0:Int)≤((j+i:Nat):Int) by omega),dT (show ((j+i:Nat):Int) < (out.length:Int) by omega),dT U,
   dj (show 0≤(a:Int)∧(a:Int)≤18446744073709551615 by omega),dj (show 0≤(b:Int)∧(b:Int)≤18446744073709551615 by omega),dj (show 0≤(o:Int)∧(o:Int)≤18446744073709551615 by omega),
   ← Int.natCast_mul,sU,Nat.mod_eq_of_lt (show a*b < 18446744073709551616 by omega),← Int.natCast_add,sU,Nat.mod_eq_of_lt (show a*b+o < 18446744073709551616 by omega),← Int.natCast_add,sU,Nat.mod_eq_of_lt (show c+(a*b+o) < 18446744073709551616 by omega),dH,jK] at bx
  rw [bx]
  unfold jA ja
  grind
theorem abc (I zs:List Int) (j x c:Int) (G:List Int) (n k:Int) (us:List Int) (m i:Int) (h:vX I zs j x c G n k us m i):∃ r:Int×Int×List Int,av Tryz.prog (lb 109 gD) (jA I zs j x c G n k us m i) (ja I zs j x c G n k us m i) (.exit 2) (jA I r.2.2 j x r.1 G n k us m r.2.1) (ja I r.2.2 j x r.1 G n k us m r.2.1)∧E9 I zs j x c G n k us m i r:=by
 obtain ⟨aE,J,a1,U,Z,rfl,rfl,rfl,ab,j,rfl,M⟩:=h
 obtain ⟨a,ha,rfl⟩:=j4 ab
 obtain ⟨z,a6,_,O⟩:=cH J (j+us.length) M
 have:=afY I G us n k U j a zs.length (vL zs) z ha Z M us.length 0 0 zs (by omega) J rfl (by omega) O ⟨by simp [cF]⟩
 rw [← O] at this
 exact this
def HX (aE:List Int→List Int→Int→Int→Int→List Int→Int→Int→List Int→Int→Int→Bool) (Z:List Int→List Int→Int→Int→Int→List Int→Int→Int→List Int→Int→Int→Int×Int×List Int) (T:List AV) (H:Hp):Option (Bool×Ex×List AV×Hp):=
 match al T 1,al T 5,al T 6,al T 7,al T 8,al T 17,al T 18,al T 19,al T 24,al T 25,al T 26,H with
 | .lst false 129 U J, .sl false 129 0 0 ab, .val (.int .i64 j), .val (.int .u32 x), .val (.int .u64 c), .lst false 129 O I, .val (.int .i64 n), .val (.int .i64 k), .lst false 129 M G, .val (.int .i64 m), .val (.int .i64 i), [.row (.ints .u32 zs) 129 .live]=>bif T.length==67 then some (okB U J&&okB O I&&okB M G&&decide (ab=zs.length)&&aE (rowOf U J) zs j x c (rowOf O I) n k (rowOf M G) m i, .exit 2,jA (rowOf U J) ((Z (rowOf U J) zs j x c (rowOf O I) n k (rowOf M G) m i).2.2) j x ((Z (rowOf U J) zs j x c (rowOf O I) n k (rowOf M G) m i).1) (rowOf O I) n k (rowOf M G) m ((Z (rowOf U J) zs j x c (rowOf O I) n k (rowOf M G) m i).2.1),ja (rowOf U J) ((Z (rowOf U J) zs j x c (rowOf O I) n k (rowOf M G) m i).2.2) j x ((Z (rowOf U J) zs j x c (rowOf O I) n k (rowOf M G) m i).1) (rowOf O I) n k (rowOf M G) m ((Z (rowOf U J) zs j x c (rowOf O I) n k (rowOf M G) m i).2.1)) else none
 | _,_,_,_,_,_,_,_,_,_,_,_=>none
abbrev BW:Type:=List Int→List Int→Int→Int→Int→List Int→Int→Int→List Int→Int→Int→Bool
abbrev Bz:Type:=List Int→List Int→Int→Int→Int→List Int→Int→Int→List Int→Int→Int→Int×Int×List Int
def Ki (G:BW) (I:Bz) (L:aC):aC:=bp 0 109 gD [1,5,6,7,8,17,18,19,24,25,26] (HX G I) L
def kA (I zs:List Int) (j x c:Int) (G:List Int) (n k:Int) (us:List Int) (m i:Int):Int×Int×List Int:=Classical.epsilon fun ρ=>av Tryz.prog (lb 109 gD) (jA I zs j x c G n k us m i) (ja I zs j x c G n k us m i) (.exit 2) (jA I (ρ.2.2) j x (ρ.1) G n k us m (ρ.2.1)) (ja I (ρ.2.2) j x (ρ.1) G n k us m (ρ.2.1))∧E9 I zs j x c G n k us m i ρ
theorem OG (I zs:List Int) (j x c:Int) (G:List Int) (n k:Int) (us:List Int) (m i:Int) (h:vX I zs j x c G n k us m i):av Tryz.prog (lb 109 gD) (jA I zs j x c G n k us m i) (ja I zs j x c G n k us m i) (.exit 2) (jA I ((kA I zs j x c G n k us m i).2.2) j x ((kA I zs j x c G n k us m i).1) G n k us m ((kA I zs j x c G n k us m i).2.1)) (ja I ((kA I zs j x c G n k us m i).2.2) j x ((kA I zs j x c G n k us m i).1) G n k us m ((kA I zs j x c G n k us m i).2.1))∧E9 I zs j x c G n k us m i (kA I zs j x c G n k us m i):=Classical.epsilon_spec (abc I zs j x c G n k us m i h)
def ue (I zs:List Int) (j x c:Int) (G:List Int) (n k:Int) (us:List Int) (m i:Int):Bool:= @decide (vX I zs j x c G n k us m i) (Classical.propDecidable _)
theorem WM (I zs:List Int) (j x c:Int) (G:List Int) (n k:Int) (us:List Int) (m i:Int) (h:vX I zs j x c G n k us m i):ue I zs j x c G n k us m i=true:= @decide_eq_true _ (Classical.propDecidable _) h
theorem agO (T:List AV) (H:Hp) (e:Ex) (J:List AV) (I:Hp) (h:HX ue kA T H=some (true,e,J,I)):V.Ends Tryz.prog false 0 0 (.loop (lb 109 gD)) T H e J I:=by
 unfold HX at h
 split at h
 ·rename_i c5 ab c6 j x c c4 Z n k c3 U m i zs aE b1 b2 b3 b4 a1 a6 a7 bx bD b0
  rw [Bool.cond_eq_ite] at h
  split at h
  ·rename_i M
   rw [beq_iff_eq] at M
   simp only [Option.some.injEq,Prod.mk.injEq,Bool.and_eq_true,decide_eq_true_eq] at h
   obtain ⟨⟨⟨⟨⟨k1,b6⟩,b7⟩,ch⟩,ct⟩,rfl,rfl,rfl⟩:=h
   have c0:= @of_decide_eq_true _ (Classical.propDecidable _) ct
   refine Ends.pre (OG (rowOf c5 ab) zs j x c (rowOf c4 Z) n k (rowOf c3 U) m i c0).1.ends (fun α B w D c7 b5=>bq M (fun p O y G=> ?_) b5)
   simp only [List.mem_cons,List.not_mem_nil,or_false] at O
   rcases O with rfl | rfl | rfl | rfl | rfl | rfl | rfl | rfl | rfl | rfl | rfl
   ·rw [aE] at G;rw [cA];exact cE cy k1 G
   ·rw [b1] at G;rw [← ch];exact G
   ·rw [b2] at G;exact G
   ·rw [b3] at G;exact G
   ·rw [b4] at G;exact G
   ·rw [a1] at G;rw [cA];exact cE cy b6 G
   ·rw [a6] at G;exact G
   ·rw [a7] at G;exact G
   ·rw [bx] at G;rw [cA];exact cE cy b7 G
   ·rw [bD] at G;exact G
   ·rw [b0] at G;exact G
  ·cases h
 ·cases h
theorem SL {L:aC} (h:aB Tryz.prog L):aB Tryz.prog (Ki ue kA L):=h.bz Ue agO
def IQ (G:BW) (I:Bz):Env:= ⟨aK,au,Ki G I aq⟩
abbrev gE:List Bool:= [false,true,false,true,true]
def jB (I zs G:List Int) (n i:Int):List AV:=ar 67 [(1, .lst false 129 I.length (lim I)),(5, .sl false 129 0 0 zs.length),(17, .lst false 129 G.length (lim G)),(18, .val (.int .i64 n)),(19, .val (.int .i64 i))]
def jb (I zs G:List Int) (n i:Int):Hp:= [.row (.ints .u32 zs) 129 .live]
theorem Uf:aH Tryz.prog 109 gE=some (.loop (lb 109 gE)):=by kernel_rfl
theorem VQ:aH Tryz.prog 109 (false :: gE)=some (lb 109 gE):=by kernel_rfl
theorem Pv (O:BW) (U:Bz) (I zs G:List Int) (n i:Int):letI J:=(rowOf I.length (lim I));letI M:=(U J zs i (G.getD i.toNat (0:Int)) (0:Int) (rowOf G.length (lim G)) n i J (↑I.length:Int) (0:Int));
  (aO Tryz.prog (IQ O U) 109 [1,5,17,18,19] (lb 109 gE) (false :: gE) (jB I zs G n i) (jb I zs G n i)=(bif decide (i < n) then (bif decide ((0:Int)≤i)&&decide (i < (↑G.length:Int)) then (bif okB I.length (lim I)&&okB G.length (lim G)&&okB I.length (lim I)&&decide (zs.length=zs.length)&&O J zs i (G.getD i.toNat (0:Int)) (0:Int) (rowOf G.length (lim G)) n i J (↑I.length:Int) (0:Int) then (bif ai IntKind.i64 (i+(↑J.length:Int)) then (bif decide ((0:Int)≤i+(↑J.length:Int))&&decide (i+(↑J.length:Int) < (↑M.snd.snd.length:Int)) then (bif decide (0+(i+(↑J.length:Int)).toNat*1 < M.snd.snd.length) then (bif ai IntKind.i64 (i+(1:Int)) then some (.normal,ar 67 [(1,(.lst false 129 (J.length) (lim J))),(5,(.sl false 129 0 0 (M.snd.snd.length))),(17,(.lst false 129 ((rowOf G.length (lim G)).length) (lim (rowOf G.length (lim G))))),(18,(.val (.int .i64 n))),(19,(.val (.int .i64 (i+(1:Int)))))], [(.row (.ints .u32 (M.snd.snd.set (0+(i+(↑J.length:Int)).toNat*1) (IntKind.u32.wrap M.fst))) 129 .live)]) else none) else none) else none) else none) else none) else none) else some ((.exit 0),ar 67 [(1,(.lst false 129 I.length (lim I))),(5,(.sl false 129 0 0 zs.length)),(17,(.lst false 129 G.length (lim G))),(18,(.val (.int .i64 n))),(19,(.val (.int .i64 i)))], [(.row (.ints .u32 zs) 129 .live)]))):=by kernel_rfl
theorem Qv {I zs G:List Int} {n i:Int} {e:Ex} {T:List AV} {H:Hp} (h:aO Tryz.prog (IQ ue kA) 109 [1,5,17,18,19] (lb 109 gE) (false :: gE) (jB I zs G n i) (jb I zs G n i)=some (e,T,H)):V.Ends Tryz.prog false 0 0 (lb 109 gE) (jB I zs G n i) (jb I zs G n i) e T H:=
 bF (aJ _) (SL aB.none).ok mixed VQ h
def vZ (I zs G:List Int) (n i:Int):Prop:=
 aI I∧aI G∧G.length+I.length≤17592186044416∧n=G.length∧i=0∧zs=List.replicate (G.length+I.length) 0
def Fa (I zs G:List Int) (n i:Int) (r:Int×List Int):Prop:=aI r.2∧r.2.length=G.length+I.length∧vL r.2=vL G*vL I
theorem agT (G I:List Int) (ab:aI G) (Z:aI I) (hb:I.length+G.length≤17592186044416) (d:Nat):∀ (i:Nat) (out:List Int),i+d=I.length→aI out→out.length=I.length+G.length→vL out=vL (I.take i)*vL G→
  ∃ r:Int×List Int,av Tryz.prog (lb 109 gE) (jB G out I I.length i) (jb G out I I.length i) (.exit 0) (jB G r.2 I I.length r.1) (jb G r.2 I I.length r.1)∧
   aI r.2∧r.2.length=I.length+G.length∧vL r.2=vL I*vL G:=by
 induction d with
 | zero=>
  intro i out hi J bx b2
  have c3:i=I.length:=by omega
  subst c3
  refine ⟨((I.length:Int),out), .last (Qv ?_) (by grind),J,bx, ?_⟩
  ·rw [Pv,dF (show ¬ ((I.length:Int) < I.length) by omega)]
   rfl
  grind
 | succ d b3=>
  intro i out hi J bx b2
  have a7:i < I.length:=by omega
  obtain ⟨a,ha,ch,c5⟩:=cH Z i a7
  have c6:=la I i a7
  rw [ch,Int.toNat_natCast] at c6
  have b0:=dP (oE Z i)
  rw [List.length_take,Nat.min_eq_left (by omega)] at b0
  have c4:=dP ab
  have eg:out.getD (i+G.length) 0=0:=by
   obtain ⟨o,ec,ct,ed⟩:=cH J (i+G.length) (by omega)
   have M:=M1 J (i+G.length) (by omega)
   have O:vL (I.take i)*vL G < 4294967296 ^ i*4294967296 ^ G.length:=Nat.mul_lt_mul'' b0 c4
   rw [ct,Int.toNat_natCast] at M
   rw [← Nat.pow_add,← b2] at O
   have eb:o=0:=by
    rcases Nat.eq_zero_or_pos o with a1 | a1
    ·exact a1
    ·have:=Nat.le_mul_of_pos_right (4294967296 ^ (i+G.length)) a1
     omega
   grind
  have b1:vX G out i a 0 I I.length i G G.length 0:= ⟨ab,J,Z,ab,by omega,rfl,rfl,rfl,fz ha,i,rfl,by omega⟩
  obtain ⟨_,b4,ea,b5,q,b6,b7,a6⟩:=OG _ _ _ _ _ _ _ _ _ _ _ b1
  have U:=Pv ue kA G out I I.length i
  simp only [kE,Nat.mul_one,Nat.zero_add,Int.toNat_natCast,c5,eq_self,decide_true] at U
  rw [WM _ _ _ _ _ _ _ _ _ _ _ b1] at U
  generalize kA G out i a 0 I I.length i G G.length 0=r at*
  rw [Int.toNat_natCast] at b5 a6
  rw [Int.toNat_natCast] at a6
  have bD:i+G.length < r.2.2.length:=by omega
  have aE:=oX r.2.2 (i+G.length) bD (q:Int)
  have c0:r.2.2[i+G.length]=0:=by
   grind
  rw [c0] at aE
  simp only [Int.toNat_natCast,Int.toNat_zero,Nat.mul_zero,Nat.add_zero] at aE
  obtain ⟨dy,M,O⟩:=b3 (i+1) (r.2.2.set (i+G.length) (q:Int)) (by omega) (fC b4 _ _ (by omega) (by omega)) (by grind) (by
   grind)
  refine ⟨dy, .more (Qv ?_) M,O⟩
  clear M O b3 aE
  have e1:(i:Int)+(G.length:Int)=((i+G.length:Nat):Int):=by omega
  have c7:ai .i64 ((i:Int)+1)=true:=aM (by omega)
  have dx:ai .i64 ((i+G.length:Nat):Int)=true:=aM (by omega)
  rw [jg ab,jg Z,e1,Int.toNat_natCast,c7,dx,dT (show (i:Int) < I.length by omega),dT (show (0:Int)≤(i:Int) by omega),dT (show (0:Int)≤((i+G.length:Nat):Int) by omega),dT (show ((i+G.length:Nat):Int) < (r.2.2.length:Int) by omega),dT bD,b7,dH,Nat.mod_eq_of_lt b6] at U
  rw [U]
  unfold jB jb
  grind
theorem abd (I zs G:List Int) (n i:Int) (h:vZ I zs G n i):∃ r:Int×List Int,av Tryz.prog (lb 109 gE) (jB I zs G n i) (jb I zs G n i) (.exit 0) (jB I r.2 G n r.1) (jb I r.2 G n r.1)∧Fa I zs G n i r:=by
 obtain ⟨J,M,O,rfl,rfl,rfl⟩:=h
 exact agT I G J M O G.length 0 _ (by omega) (lv _) (by simp) (by rw [Ic];simp [cF])
def HY (Z:List Int→List Int→List Int→Int→Int→Bool) (O:List Int→List Int→List Int→Int→Int→Int×List Int) (T:List AV) (H:Hp):Option (Bool×Ex×List AV×Hp):=
 match al T 1,al T 5,al T 17,al T 18,al T 19,H with
 | .lst false 129 M I, .sl false 129 0 0 U, .lst false 129 J G, .val (.int .i64 n), .val (.int .i64 i), [.row (.ints .u32 zs) 129 .live]=>bif T.length==67 then some (okB M I&&okB J G&&decide (U=zs.length)&&Z (rowOf M I) zs (rowOf J G) n i, .exit 0,jB (rowOf M I) ((O (rowOf M I) zs (rowOf J G) n i).2) (rowOf J G) n ((O (rowOf M I) zs (rowOf J G) n i).1),jb (rowOf M I) ((O (rowOf M I) zs (rowOf J G) n i).2) (rowOf J G) n ((O (rowOf M I) zs (rowOf J G) n i).1)) else none
 | _,_,_,_,_,_=>none
abbrev BX:Type:=List Int→List Int→List Int→Int→Int→Bool
abbrev BB:Type:=List Int→List Int→List Int→Int→Int→Int×List Int
def Kj (G:BX) (I:BB) (L:aC):aC:=bp 0 109 gE [1,5,17,18,19] (HY G I) L
def ml (I zs G:List Int) (n i:Int):Int×List Int:=Classical.epsilon fun ρ=>av Tryz.prog (lb 109 gE) (jB I zs G n i) (jb I zs G n i) (.exit 0) (jB I (ρ.2) G n (ρ.1)) (jb I (ρ.2) G n (ρ.1))∧Fa I zs G n i ρ
theorem OH (I zs G:List Int) (n i:Int) (h:vZ I zs G n i):av Tryz.prog (lb 109 gE) (jB I zs G n i) (jb I zs G n i) (.exit 0) (jB I ((ml I zs G n i).2) G n ((ml I zs G n i).1)) (jb I ((ml I zs G n i).2) G n ((ml I zs G n i).1))∧Fa I zs G n i (ml I zs G n i):=Classical.epsilon_spec (abd I zs G n i h)
def uf (I zs G:List Int) (n i:Int):Bool:= @decide (vZ I zs G n i) (Classical.propDecidable _)
theorem WN (I zs G:List Int) (n i:Int) (h:vZ I zs G n i):uf I zs G n i=true:= @decide_eq_true _ (Classical.propDecidable _) h
theorem agP (T:List AV) (H:Hp) (e:Ex) (J:List AV) (I:Hp) (h:HY uf ml T H=some (true,e,J,I)):V.Ends Tryz.prog false 0 0 (.loop (lb 109 gE)) T H e J I:=by
 unfold HY at h
 split at h
 ·rename_i b4 Z b5 b3 U n i zs ab a7 aE a1 a6
  rw [Bool.cond_eq_ite] at h
  split at h
  ·rename_i M
   rw [beq_iff_eq] at M
   simp only [Option.some.injEq,Prod.mk.injEq,Bool.and_eq_true,decide_eq_true_eq] at h
   obtain ⟨⟨⟨⟨k1,bD⟩,b0⟩,b1⟩,rfl,rfl,rfl⟩:=h
   have b2:= @of_decide_eq_true _ (Classical.propDecidable _) b1
   refine Ends.pre (OH (rowOf b4 Z) zs (rowOf b3 U) n i b2).1.ends (fun α B w D b6 bx=>bq M (fun p O y G=> ?_) bx)
   simp only [List.mem_cons,List.not_mem_nil,or_false] at O
   rcases O with rfl | rfl | rfl | rfl | rfl
   ·rw [ab] at G;rw [cA];exact cE cy k1 G
   ·rw [a7] at G;rw [← b0];exact G
   ·rw [aE] at G;rw [cA];exact cE cy bD G
   ·rw [a1] at G;exact G
   ·rw [a6] at G;exact G
  ·cases h
 ·cases h
theorem SM {L:aC} (h:aB Tryz.prog L):aB Tryz.prog (Kj uf ml L):=h.bz Uf agP
def IS (S:Sg) (G:BX) (I:BB):Env:= ⟨CT S,au,Kj G I aq⟩
theorem afX (S:Sg) (O:BX) (U:BB) (G I:List Int):letI M:=((↑G.length:Int)+(↑I.length:Int));letI J:=(U (rowOf I.length (lim I)) (List.replicate M.toNat (0:Int)) (rowOf G.length (lim G)) (↑G.length:Int) (0:Int));
  (aF Tryz.prog (IS S O U) 10 10 109 [.lst false 129 G.length (lim G), .lst false 129 I.length (lim I)]=(bif ai IntKind.i64 M then (bif decide ((↑G.length:Int)+(↑I.length:Int)≤(↑G.length:Int)+(↑I.length:Int))&&decide ((4:Int)*M≤(281474976710656:Int))&&decide ((↑G.length:Int)+(↑I.length:Int)≤(9223372036854775807:Int)) then (bif okB I.length (lim I)&&okB G.length (lim G)&&decide (M.toNat=(List.replicate M.toNat (0:Int)).length)&&O (rowOf I.length (lim I)) (List.replicate M.toNat (0:Int)) (rowOf G.length (lim G)) (↑G.length:Int) (0:Int) then (bif decide (0+J.snd.length*1≤J.snd.length) then (bif S.bU J.snd.length (lim J.snd) then some (.lst false 129 (S.len (S.num J.snd.length (lim J.snd))) (S.row (S.num J.snd.length (lim J.snd)))) else none) else none) else none) else none) else none)):=by kernel_rfl
def AD (S:Sg) (args:List AV):Option (Bool×AV):=match args with | [.lst _ 129 m f, .lst _ 129 n g]=>some (S.aV m f&&S.aV n g,S.fX (S.num m f*S.num n g)) | _=>none
theorem LJ:Entry Tryz.prog 109 (AD aa):=by
 refine iI (E:=IS aa uf ml) (u:=10) (d:=10) tf (SM aB.none).ok (by kernel_rfl) (fun args r h=> ?_)
 unfold AD at h
 split at h
 ·rename_i fl m f b5 n g
  simp only [Option.some.injEq,Prod.mk.injEq,Bool.and_eq_true,decide_eq_true_eq] at h
  obtain ⟨⟨a7,bx⟩,rfl⟩:=h
  obtain ⟨U,J,b2,Z⟩:=rY a7
  obtain ⟨ab,M,b3,aE⟩:=rY bx
  have O:vZ (rowOf n g) (List.replicate ((rowOf m f).length+(rowOf n g).length) 0) (rowOf m f) (rowOf m f).length 0:= ⟨M,J,by omega,rfl,rfl,rfl⟩
  obtain ⟨_,a1,b4,a6⟩:=OH _ _ _ _ _ O
  have G:=afX aa uf ml (rowOf m f) (rowOf n g)
  have e1:((rowOf m f).length:Int)+((rowOf n g).length:Int)=(((rowOf m f).length+(rowOf n g).length:Nat):Int):=by omega
  simp only [kE,Nat.mul_one,Nat.zero_add,e1,Int.toNat_natCast,List.length_replicate,eq_self,decide_true] at G
  rw [WN _ _ _ _ _ O] at G
  generalize ml (rowOf n g) (List.replicate ((rowOf m f).length+(rowOf n g).length) 0) (rowOf m f) (rowOf m f).length 0=r at*
  rw [jg J,jg M,bH _ (by omega),dT (show (((rowOf m f).length+(rowOf n g).length:Nat):Int)≤(((rowOf m f).length+(rowOf n g).length:Nat):Int) by omega),dT (show (4:Int)*(((rowOf m f).length+(rowOf n g).length:Nat):Int)≤281474976710656 by omega),dT (show (((rowOf m f).length+(rowOf n g).length:Nat):Int)≤9223372036854775807 by omega),dT (show r.2.length≤r.2.length by omega),l9 a1 (by omega),lZ,a6] at G
  refine ⟨_,_,G,fun B w b6 I=> ?_,fun B w y I=>by rw [Z,aE];exact I⟩
  obtain ⟨y,zs,rfl,q1,q2⟩:=I
  obtain ⟨b1,zs,rfl,bD,b0⟩:=q2
  exact ⟨y,_,rfl,lu U q1,b1,_,rfl,lu ab bD,b0⟩
 ·cases h
end
end Go.Proofs.YtamcpiicmfielaaGreat.L
namespace Go.Proofs.YtamcpiicmfielaaGreat.L
open Go Go.V Go.RowKit Go.Proofs.YtamcpiicmfielaaGreat.Sp Go.Proofs.YtamcpiicmfielaaGreat.F Go.Proofs.YtamcpiicmfielaaGreatW.PrintWords
open Go.Proofs (Tryz.prog)
noncomputable section
abbrev gd:List Bool:= [false,true,false,true,true,true]
def kI (v n i:Int) (b:Bool) (s:ByteArray):List AV:=ar 30 [(1, .ptr 0 0),(4, .val (.int .i64 v)),(12, .val (.int .i64 n)),(13, .val (.int .i64 i))]
def jQ (v n i:Int) (b:Bool) (s:ByteArray):Hp:= [.row (.cells [.val (.bool b), .val (.string s)]) 81 .live]
theorem TE:aH Tryz.prog 117 gd=some (.loop (lb 117 gd)):=by kernel_rfl
theorem Vk:aH Tryz.prog 117 (false :: gd)=some (lb 117 gd):=by kernel_rfl
theorem O5 (v n i:Int) (b:Bool) (s:ByteArray):aO Tryz.prog br 117 [1,4,12,13] (lb 117 gd) (false :: gd) (kI v n i b s) (jQ v n i b s)=
  (bif decide (i < n) then (bif ai IntKind.i64 (v*(256:Int)) then (bif decide ((0:Int)≤i)&&decide (i < (↑s.size:Int)) then (bif ai IntKind.i64 (aR s i.toNat) then (bif ai IntKind.i64 (i+(1:Int)) then some (.normal,ar 30 [(1,(.ptr 0 0)),(4,(.val (.int .i64 (cm BinOp.or IntKind.i64 (v*(256:Int)) (aR s i.toNat))))),(12,(.val (.int .i64 n))),(13,(.val (.int .i64 (i+(1:Int)))))], [(.row (.cells [(.val (.bool b)),(.val (.string s))]) 81 .live)]) else none) else none) else none) else none) else some ((.exit 0),ar 30 [(1,(.ptr 0 0)),(4,(.val (.int .i64 v))),(12,(.val (.int .i64 n))),(13,(.val (.int .i64 i)))], [(.row (.cells [(.val (.bool b)),(.val (.string s))]) 81 .live)])):=by kernel_rfl
theorem P5 {v n i:Int} {b:Bool} {s:ByteArray} {e:Ex} {T:List AV} {H:Hp} (h:aO Tryz.prog br 117 [1,4,12,13] (lb 117 gd) (false :: gd) (kI v n i b s) (jQ v n i b s)=some (e,T,H)):V.Ends Tryz.prog false 0 0 (lb 117 gd) (kI v n i b s) (jQ v n i b s) e T H:=
 bF (aJ _) aN mixed Vk h
def vq (v n i:Int) (b:Bool) (s:ByteArray):Prop:=s.size≤7∧n=s.size∧v=0∧i=0
def zy (v n i:Int) (b:Bool) (s:ByteArray) (r:Int×Int):Prop:=r.1=(vS s:Nat)
theorem qP (s:ByteArray) (i:Nat) (h:i < s.size):(vB (s.data.toList.take (i+1)):Int)=(vB (s.data.toList.take i):Int)*256+aR s i:=by
 have G:i < s.data.toList.length:=by simp_all
 rw [List.take_succ_eq_append_getElem G,wP]
 unfold aR
 grind
theorem ab9 (v b:Nat) (M:v < 36028797018963968) (hb:b < 256):cm .or .i64 ((v:Int)*256) (b:Int)=((v*256+b:Nat):Int):=by
 have G:Go.bits .or .i64 ((v*256:Nat):Int) ((b:Nat):Int)=((v*256+b:Nat):Int):=by
  have:=bits_join .i64 63 (by decide) (fun n I J=>by rw [IntKind.wrap_i64];omega) 8 ((v*256:Nat):Int) ((b:Nat):Int) (by omega) (by omega) (by omega) (by omega) (by omega) (by omega)
  grind
 rw [Int.natCast_mul] at G
 exact G
theorem aag (s:ByteArray) (b:Bool) (Z:s.size≤7) (d:Nat):∀ i:Nat,i+d=s.size→∃ r:Int×Int,av Tryz.prog (lb 117 gd) (kI (vB (s.data.toList.take i):Nat) s.size i b s) (jQ (vB (s.data.toList.take i):Nat) s.size i b s) (.exit 0) (kI r.1 s.size r.2 b s) (jQ r.1 s.size r.2 b s)∧r.1=(vS s:Nat):=by
 induction d with
 | zero=>
  intro i hi
  have M:i=s.size:=by omega
  subst M
  have e:s.data.toList.take s.size=s.data.toList:=List.take_of_length_le (by simp_all)
  refine ⟨((vB (s.data.toList.take s.size):Nat),(s.size:Int)), .last (P5 ?_) (by grind),by rw [e];rfl⟩
  rw [O5,dF (show ¬ ((s.size:Int) < s.size) by omega)]
  rfl
 | succ d U=>
  intro i hi
  obtain ⟨r,I,J⟩:=U (i+1) (by omega)
  refine ⟨r, .more (P5 ?_) I,J⟩
  rw [O5]
  have hb:=lQ s i
  have ab:vB (s.data.toList.take i) < 256 ^ 6:=by
   refine Nat.lt_of_lt_of_le (oW _) (Nat.pow_le_pow_right (by decide) ?_)
   grind
  have O:=qP s i (by omega)
  obtain ⟨c,G⟩:∃ c:Nat,aR s i=c:= ⟨(aR s i).toNat,by omega⟩
  rw [G] at hb O
  rw [Int.toNat_natCast,G,ab9 _ _ (by omega) (by omega),aM (show -9223372036854775808≤((vB (s.data.toList.take i):Nat):Int)*256∧((vB (s.data.toList.take i):Nat):Int)*256≤9223372036854775807 by omega),aM (show -9223372036854775808≤(c:Int)∧(c:Int)≤9223372036854775807 by omega),aM (show -9223372036854775808≤(i:Int)+1∧(i:Int)+1≤9223372036854775807 by omega),dT (show (i:Int) < s.size by omega),dT (show (0:Int)≤(i:Int) by omega)]
  have e:vB (s.data.toList.take (i+1))=vB (s.data.toList.take i)*256+c:=by omega
  rw [e]
  rfl
theorem aaJ (v n i:Int) (b:Bool) (s:ByteArray) (h:vq v n i b s):∃ r:Int×Int,av Tryz.prog (lb 117 gd) (kI v n i b s) (jQ v n i b s) (.exit 0) (kI r.1 n r.2 b s) (jQ r.1 n r.2 b s)∧zy v n i b s r:=by
 obtain ⟨G,rfl,rfl,rfl⟩:=h
 exact aag s b G s.size 0 (by omega)
def Hn (I:Int→Int→Int→Bool→ByteArray→Bool) (G:Int→Int→Int→Bool→ByteArray→Int×Int) (T:List AV) (H:Hp):Option (Bool×Ex×List AV×Hp):=
 match al T 1,al T 4,al T 12,al T 13,H with
 | .ptr 0 0, .val (.int .i64 v), .val (.int .i64 n), .val (.int .i64 i), [.row (.cells [.val (.bool b), .val (.string s)]) 81 .live]=>bif T.length==30 then some (I v n i b s, .exit 0,kI ((G v n i b s).1) n ((G v n i b s).2) b s,jQ ((G v n i b s).1) n ((G v n i b s).2) b s) else none
 | _,_,_,_,_=>none
abbrev xa:Type:=Int→Int→Int→Bool→ByteArray→Bool
abbrev w7:Type:=Int→Int→Int→Bool→ByteArray→Int×Int
def J4 (G:xa) (I:w7) (L:aC):aC:=bp 0 117 gd [1,4,12,13] (Hn G I) L
def oL (v n i:Int) (b:Bool) (s:ByteArray):Int×Int:=Classical.epsilon fun ρ=>av Tryz.prog (lb 117 gd) (kI v n i b s) (jQ v n i b s) (.exit 0) (kI (ρ.1) n (ρ.2) b s) (jQ (ρ.1) n (ρ.2) b s)∧zy v n i b s ρ
theorem Of (v n i:Int) (b:Bool) (s:ByteArray) (h:vq v n i b s):av Tryz.prog (lb 117 gd) (kI v n i b s) (jQ v n i b s) (.exit 0) (kI ((oL v n i b s).1) n ((oL v n i b s).2) b s) (jQ ((oL v n i b s).1) n ((oL v n i b s).2) b s)∧zy v n i b s (oL v n i b s):=Classical.epsilon_spec (aaJ v n i b s h)
def x8 (v n i:Int) (b:Bool) (s:ByteArray):Bool:= @decide (vq v n i b s) (Classical.propDecidable _)
theorem Ld (v n i:Int) (b:Bool) (s:ByteArray) (h:vq v n i b s):x8 v n i b s=true:= @decide_eq_true _ (Classical.propDecidable _) h
theorem agl (T:List AV) (H:Hp) (e:Ex) (J:List AV) (I:Hp) (h:Hn x8 oL T H=some (true,e,J,I)):V.Ends Tryz.prog false 0 0 (.loop (lb 117 gd)) T H e J I:=by
 unfold Hn at h
 split at h
 ·rename_i v n i b s U aE Z ab
  rw [Bool.cond_eq_ite] at h
  split at h
  ·rename_i M
   rw [beq_iff_eq] at M
   simp only [Option.some.injEq,Prod.mk.injEq,Bool.and_eq_true,decide_eq_true_eq] at h
   obtain ⟨k1,rfl,rfl,rfl⟩:=h
   have a6:= @of_decide_eq_true _ (Classical.propDecidable _) k1
   refine Ends.pre (Of v n i b s a6).1.ends (fun α B w D a7 a1=>bq M (fun p O y G=> ?_) a1)
   simp only [List.mem_cons,List.not_mem_nil,or_false] at O
   rcases O with rfl | rfl | rfl | rfl
   ·rw [U] at G;exact G
   ·rw [aE] at G;exact G
   ·rw [Z] at G;exact G
   ·rw [ab] at G;exact G
  ·cases h
 ·cases h
theorem Sf {L:aC} (h:aB Tryz.prog L):aB Tryz.prog (J4 x8 oL L):=h.bz TE agl
def Be (G:xa) (I:w7):Env:= ⟨aK,au,J4 G I aq⟩
theorem M4 (G:xa) (I:w7) (s:ByteArray):aF Tryz.prog (Be G I) 10 10 117 [.agg [.val (.bool true), .val (.string s)]]=
  (bif decide ((7:Int) < (↑s.size:Int)) then some (.tup [(.val (.int .i64 0)),(.val (.bool false))]) else (bif G (0:Int) (↑s.size:Int) (0:Int) true s then some (.tup [(.val (.int .i64 (IntKind.i64.wrap ((0:Int) - (I (0:Int) (↑s.size:Int) (0:Int) true s).fst)))),(.val (.bool true))]) else none)):=by kernel_rfl
theorem M3 (G:xa) (I:w7) (s:ByteArray):aF Tryz.prog (Be G I) 10 10 117 [.agg [.val (.bool false), .val (.string s)]]=
  (bif decide ((7:Int) < (↑s.size:Int)) then some (.tup [(.val (.int .i64 0)),(.val (.bool false))]) else (bif G (0:Int) (↑s.size:Int) (0:Int) false s then some (.tup [(.val (.int .i64 ((I (0:Int) (↑s.size:Int) (0:Int) false s).fst))),(.val (.bool true))]) else none)):=by kernel_rfl
structure Sl where
 b:Bool→ByteArray→Bool
 v:Bool→ByteArray→Int
def kT:Sl where
 b _ s:=decide (s.size≤7)
 v b s:=if s.size≤7 then Sp.val b s else 0
def GF (G:Sl) (args:List AV):Option (Bool×AV):=match args with | [.agg [.val (.bool b), .val (.string s)]]=>some (decide (s.size≤140737488355328), .tup [.val (.int .i64 (G.v b s)), .val (.bool (G.b b s))]) | _=>none
theorem qQ {s:ByteArray} (h:s.size≤7):vS s < 72057594037927936:=Nat.lt_of_lt_of_le (lK s) (Nat.pow_le_pow_right (by decide:0 < 256) h)
theorem XR:Entry Tryz.prog 117 (GF kT):=by
 refine bg (E:=Be x8 oL) (u:=10) (d:=10) (aJ _) (Sf aB.none).ok mixed (by kernel_rfl) (fun args r h=> ?_)
 unfold GF at h
 split at h
 ·rename_i b s
  simp only [Option.some.injEq,Prod.mk.injEq,decide_eq_true_eq] at h
  obtain ⟨hb,rfl⟩:=h
  by_cases G:s.size≤7
  ·have M:vq 0 s.size 0 b s:= ⟨G,rfl,rfl,rfl⟩
   have J:=(Of _ _ _ _ _ M).2
   have O:=qQ G
   unfold zy at J
   have e1:kT.v b s=val b s:=if_pos G
   have I:kT.b b s=true:=decide_eq_true G
   rw [e1,I]
   cases b with
   | true=>
    rw [M4,Ld _ _ _ _ _ M,J,dF (show ¬ ((7:Int) < s.size) by omega)]
    refine congrArg some ?_
    have e:IntKind.i64.wrap (0 - ((vS s:Nat):Int))= -((vS s:Nat):Int):=by rw [IntKind.wrap_i64];omega
    show AV.tup [AV.val (.int .i64 (IntKind.i64.wrap (0 - ((vS s:Nat):Int)))),_]=_
    rw [e]
    rfl
   | false=>
    rw [M3,Ld _ _ _ _ _ M,J,dF (show ¬ ((7:Int) < s.size) by omega)]
    rfl
  ·have e1:kT.v b s=0:=if_neg G
   have I:kT.b b s=false:=decide_eq_false G
   rw [e1,I]
   cases b with
   | true=>rw [M4,dT (show (7:Int) < s.size by omega)];rfl
   | false=>rw [M3,dT (show (7:Int) < s.size by omega)];rfl
 ·cases h
def CA (S:Sg) (G:Sl):FuncId→List AV→Option (Bool×AV):=
 aw 117 (GF G) (aw 106 (wF S) (aw 108 (Ao S) (aw 109 (AD S) (aw 118 (Ap S) (aw 119 (GG S) (aw 107 (wD S) (aw 69 (kW S) aK)))))))
theorem Ij:bf Tryz.prog (CA aa kT):=((((((((aJ _).add yp).add C7).add XT).add Lv).add LJ).add C9).add C8).add XR
def EA (S:Sg) (G:Sl):Env:= ⟨CA S G,au,aq⟩
theorem abz (S:Sg) (G:Sl) (b c:Bool) (s t:ByteArray):aF Tryz.prog (EA S G) 10 10 65 [.agg [.val (.bool b), .val (.string s)], .agg [.val (.bool c), .val (.string t)]]=
  (bif S.ok s then (bif S.ok t then (bif S.aV (S.len (S.vs s)) (S.row (S.vs s))&&S.aV (S.len (S.vs t)) (S.row (S.vs t)) then (bif S.bU (S.len (S.num (S.len (S.vs s)) (S.row (S.vs s))*S.num (S.len (S.vs t)) (S.row (S.vs t)))) (S.row (S.num (S.len (S.vs s)) (S.row (S.vs s))*S.num (S.len (S.vs t)) (S.row (S.vs t)))) then some (.agg [(.val (.bool (S.ng (S.sg (bif true then !b==c else b==c) (S.num (S.len (S.num (S.len (S.vs s)) (S.row (S.vs s))*S.num (S.len (S.vs t)) (S.row (S.vs t)))) (S.row (S.num (S.len (S.vs s)) (S.row (S.vs s))*S.num (S.len (S.vs t)) (S.row (S.vs t))))))))),(.val (.string (S.ms (S.sg (bif true then !b==c else b==c) (S.num (S.len (S.num (S.len (S.vs s)) (S.row (S.vs s))*S.num (S.len (S.vs t)) (S.row (S.vs t)))) (S.row (S.num (S.len (S.vs s)) (S.row (S.vs s))*S.num (S.len (S.vs t)) (S.row (S.vs t)))))))))]) else none) else none) else none) else none):=by kernel_rfl
theorem SX (S:Sg) (G:Sl) (b c:Bool) (s t:ByteArray):letI I:=(S.num (S.len (S.vs s)) (S.row (S.vs s))+S.num (S.len (S.vs t)) (S.row (S.vs t)));letI J:=(S.num (S.len (S.vs t)) (S.row (S.vs t)) - S.num (S.len (S.vs s)) (S.row (S.vs s)));letI M:=(S.num (S.len (S.vs s)) (S.row (S.vs s)) - S.num (S.len (S.vs t)) (S.row (S.vs t)));letI O:Option AV:=(bif S.ok s then (bif S.ok t then (bif bif false then !b==c else b==c then (bif S.aV (S.len (S.vs s)) (S.row (S.vs s))&&S.aV (S.len (S.vs t)) (S.row (S.vs t)) then (bif S.bU (S.len I) (S.row I) then some (.agg [(.val (.bool (S.ng (S.sg b (S.num (S.len I) (S.row I)))))),(.val (.string (S.ms (S.sg b (S.num (S.len I) (S.row I))))))]) else none) else none) else (bif S.can (S.len (S.vs s)) (S.row (S.vs s))&&S.can (S.len (S.vs t)) (S.row (S.vs t)) then (bif decide (S.cmp (S.num (S.len (S.vs s)) (S.row (S.vs s))) (S.num (S.len (S.vs t)) (S.row (S.vs t))) < (0:Int)) then (bif S.can (S.len (S.vs t)) (S.row (S.vs t))&&S.can (S.len (S.vs s)) (S.row (S.vs s))&&decide (S.num (S.len (S.vs s)) (S.row (S.vs s))≤S.num (S.len (S.vs t)) (S.row (S.vs t))) then (bif S.bU (S.len J) (S.row J) then some (.agg [(.val (.bool (S.ng (S.sg c (S.num (S.len J) (S.row J)))))),(.val (.string (S.ms (S.sg c (S.num (S.len J) (S.row J))))))]) else none) else none) else (bif S.can (S.len (S.vs s)) (S.row (S.vs s))&&S.can (S.len (S.vs t)) (S.row (S.vs t))&&decide (S.num (S.len (S.vs t)) (S.row (S.vs t))≤S.num (S.len (S.vs s)) (S.row (S.vs s))) then (bif S.bU (S.len M) (S.row M) then some (.agg [(.val (.bool (S.ng (S.sg b (S.num (S.len M) (S.row M)))))),(.val (.string (S.ms (S.sg b (S.num (S.len M) (S.row M))))))]) else none) else none)) else none)) else none) else none);
  (aF Tryz.prog (EA S G) 10 10 75 [.agg [.val (.bool b), .val (.string s)], .agg [.val (.bool c), .val (.string t)]]=(bif decide (s.size≤140737488355328) then (bif G.b b s then (bif decide (t.size≤140737488355328) then (bif G.b c t then (bif ai IntKind.i64 (G.v b s+G.v c t) then (bif cW (G.v b s+G.v c t) then some (.agg [(.val (.bool (S.ng (G.v b s+G.v c t)))),(.val (.string (S.ms (G.v b s+G.v c t))))]) else none) else none) else O) else none) else O) else none)):=by kernel_rfl
def sQ (S:Sg) (args:List AV):Option (Bool×AV):=match args with | [.agg [.val (.bool b), .val (.string s)], .agg [.val (.bool c), .val (.string t)]]=>some (S.ok s&&S.ok t,S.int (S.val b s*S.val c t)) | _=>none
def kV (S:Sg) (args:List AV):Option (Bool×AV):=match args with | [.agg [.val (.bool b), .val (.string s)], .agg [.val (.bool c), .val (.string t)]]=>some (S.ok s&&S.ok t,S.int (S.val b s+S.val c t)) | _=>none
def sS (S:Sg) (args:List AV):Option (Bool×AV):=match args with | [.agg [.val (.bool b), .val (.string s)], .agg [.val (.bool c), .val (.string t)]]=>some (S.ok s&&S.ok t,S.int (S.val b s - S.val c t)) | _=>none
theorem oG {s:ByteArray} (h:aa.ok s=true):bs (aa.vs s)≤8796093022208:=Nat.le_trans (pt s) (of_decide_eq_true h)
theorem XU:Entry Tryz.prog 65 (sQ aa):=by
 refine bg (E:=EA aa kT) (u:=10) (d:=10) Ij aN mixed (by kernel_rfl) (fun args r h=> ?_)
 unfold sQ at h
 split at h
 ·rename_i b s c t
  simp only [Option.some.injEq,Prod.mk.injEq,Bool.and_eq_true] at h
  obtain ⟨⟨I,J⟩,rfl⟩:=h
  have k1:=oG I
  have M:=oG J
  have O:=xB (aa.vs s) (aa.vs t)
  have G:=abz aa kT b c s t
  simp only [mZ] at G
  rw [I,J,rZ k1,rZ M,rX (by omega)] at G
  rw [G]
  refine congrArg some ?_
  show aa.int (aa.sg _ (aa.vs s*aa.vs t))=_
  refine congrArg aa.int ?_
  show (if _ then -((vS s*vS t:Nat):Int) else ((vS s*vS t:Nat):Int))=Sp.val b s*Sp.val c t
  unfold Sp.val
  grind
 ·cases h
theorem Kq (b c:Bool) (s t:ByteArray) (G:aa.ok s=true) (I:aa.ok t=true) (X:Option AV):
  X=(bif aa.ok s then bif aa.ok t then bif b==c then (bif aa.aV (aa.len (aa.vs s)) (aa.row (aa.vs s))&&aa.aV (aa.len (aa.vs t)) (aa.row (aa.vs t)) then bif aa.bU (aa.len (aa.vs s+aa.vs t)) (aa.row (aa.vs s+aa.vs t)) then some (aa.int (aa.sg b (aa.vs s+aa.vs t))) else none else none)
   else (bif aa.can (aa.len (aa.vs s)) (aa.row (aa.vs s))&&aa.can (aa.len (aa.vs t)) (aa.row (aa.vs t)) then
    bif decide (aa.cmp (aa.vs s) (aa.vs t) < 0) then (bif aa.can (aa.len (aa.vs t)) (aa.row (aa.vs t))&&aa.can (aa.len (aa.vs s)) (aa.row (aa.vs s))&&decide (aa.vs s≤aa.vs t) then bif aa.bU (aa.len (aa.vs t - aa.vs s)) (aa.row (aa.vs t - aa.vs s)) then some (aa.int (aa.sg c (aa.vs t - aa.vs s))) else none else none)
    else (bif aa.can (aa.len (aa.vs s)) (aa.row (aa.vs s))&&aa.can (aa.len (aa.vs t)) (aa.row (aa.vs t))&&decide (aa.vs t≤aa.vs s) then bif aa.bU (aa.len (aa.vs s - aa.vs t)) (aa.row (aa.vs s - aa.vs t)) then some (aa.int (aa.sg b (aa.vs s - aa.vs t))) else none else none)
    else none) else none else none)→X=some (aa.int (aa.val b s+aa.val c t)):=by
 intro J
 have k1:=oG G
 have Z:=oG I
 have aE:=tA (aa.vs s) (aa.vs t)
 have a1:=KJ (aa.vs s) (aa.vs t)
 have a6:=KJ (aa.vs t) (aa.vs s)
 rw [G,I] at J
 rw [J]
 have ab:∀ (b:Bool) (s:ByteArray),aa.val b s=if b=true then -(aa.vs s:Int) else (aa.vs s:Int):=fun b s=>rfl
 by_cases M:b=c
 ·subst M
  rw [beq_self_eq_true,rZ k1,rZ Z,rX (by omega)]
  show some (aa.int (if b=true then -((aa.vs s+aa.vs t:Nat):Int) else ((aa.vs s+aa.vs t:Nat):Int)))=_
  grind
 ·rw [beq_eq_false_iff_ne.2 M,xJ (by omega),xJ (by omega)]
  have O:∀ a b:Nat,aa.cmp a b=if a < b then -1 else if b < a then 1 else 0:=fun a b=>rfl
  by_cases U:aa.vs s < aa.vs t
  ·rw [O,if_pos U,rX (n:=aa.vs t - aa.vs s) (by omega),dT (show aa.vs s≤aa.vs t by omega)]
   show some (aa.int (if c=true then -((aa.vs t - aa.vs s:Nat):Int) else ((aa.vs t - aa.vs s:Nat):Int)))=_
   grind
  ·rw [O,if_neg U,rX (n:=aa.vs s - aa.vs t) (by omega),dT (show aa.vs t≤aa.vs s by omega),dF (show ¬ ((if aa.vs t < aa.vs s then (1:Int) else 0) < 0) by grind)]
   show some (aa.int (if b=true then -((aa.vs s - aa.vs t:Nat):Int) else ((aa.vs s - aa.vs t:Nat):Int)))=_
   grind
theorem yo:Entry Tryz.prog 75 (kV aa):=by
 refine bg (E:=EA aa kT) (u:=10) (d:=10) Ij aN mixed (by kernel_rfl) (fun args r h=> ?_)
 unfold kV at h
 split at h
 ·rename_i b s c t
  simp only [Option.some.injEq,Prod.mk.injEq,Bool.and_eq_true] at h
  obtain ⟨⟨I,J⟩,rfl⟩:=h
  have z1:s.size≤8796093022208:=of_decide_eq_true I
  have z2:t.size≤8796093022208:=of_decide_eq_true J
  have G:=SX aa kT b c s t
  simp only [mZ] at G
  rw [dT (show s.size≤140737488355328 by omega),dT (show t.size≤140737488355328 by omega)] at G
  have e1:∀ b s,kT.b b s=decide (s.size≤7):=fun b s=>rfl
  have M:∀ b s,kT.v b s=if s.size≤7 then aa.val b s else 0:=fun b s=>rfl
  rw [e1,e1,M,M] at G
  by_cases q1:s.size≤7
  ·by_cases q2:t.size≤7
   ·have O:=qQ q1
    have U:=qQ q2
    have Z:(aa.val b s).natAbs < 72057594037927936:=by rw [← lL];exact O
    have ab:(aa.val c t).natAbs < 72057594037927936:=by rw [← lL];exact U
    rw [dT q1,dT q2,if_pos q1,if_pos q2,aM (show -9223372036854775808≤aa.val b s+aa.val c t∧aa.val b s+aa.val c t≤9223372036854775807 by omega)] at G
    unfold cW at G
    rw [dT (show -9223372036854775808≤aa.val b s+aa.val c t by omega),dT (show aa.val b s+aa.val c t≤9223372036854775807 by omega)] at G
    exact G
   ·rw [dT q1,dF q2] at G
    exact Kq b c s t I J _ G
  ·rw [dF q1] at G
   exact Kq b c s t I J _ G
 ·cases h
def EB (S:Sg):Env:= ⟨aw 75 (kV S) aK,au,aq⟩
theorem afL (S:Sg) (b c:Bool) (s t:ByteArray):aF Tryz.prog (EB S) 10 10 153 [.agg [.val (.bool b), .val (.string s)], .agg [.val (.bool c), .val (.string t)]]=
  (bif S.ok s&&S.ok t then some (.agg [(.val (.bool (S.ng (S.val b s+S.val (!c) t)))),(.val (.string (S.ms (S.val b s+S.val (!c) t))))]) else none):=by kernel_rfl
theorem Yr:Entry Tryz.prog 153 (sS aa):=by
 refine bg (E:=EB aa) (u:=10) (d:=10) ((aJ _).add yo) aN mixed (by kernel_rfl) (fun args r h=> ?_)
 unfold sS at h
 split at h
 ·rename_i b s c t
  simp only [Option.some.injEq,Prod.mk.injEq,Bool.and_eq_true] at h
  obtain ⟨⟨I,J⟩,rfl⟩:=h
  have G:=afL aa b c s t
  rw [I,J,show aa.val (!c) t= -aa.val c t from Rc c t,← Int.sub_eq_add_neg] at G
  exact G
 ·cases h
end
end Go.Proofs.YtamcpiicmfielaaGreat.L
namespace Go.Proofs.YtamcpiicmfielaaGreat.L
open Go Go.V Go.RowKit Go.Proofs.YtamcpiicmfielaaGreat.Sp Go.Proofs.YtamcpiicmfielaaGreat.F Go.Proofs.YtamcpiicmfielaaGreatW.PrintWords
open Go.Proofs (Tryz.prog)
noncomputable section
def nQ:Env:= ⟨aK,au,aq⟩
def uD:ByteArray:= ⟨⟨[0,1] ++ List.replicate 2 2 ++ List.replicate 4 3 ++ List.replicate 8 4 ++ List.replicate 16 5 ++ List.replicate 32 6 ++ List.replicate 64 7 ++ List.replicate 128 8⟩⟩
def rN (c y:Int):Option AV:=bif decide (0≤IntKind.u8.wrap y)&&decide (IntKind.u8.wrap y < 256) then bif ai .i64 (aR uD (IntKind.u8.wrap y).toNat) then bif ai .i64 (c+aR uD (IntKind.u8.wrap y).toNat) then some (.val (.int .i64 (c+aR uD (IntKind.u8.wrap y).toNat))) else none else none else none
theorem Z7 (x:Int):aF Tryz.prog nQ 10 10 150 [.val (.int .u32 x)]=(bif decide (65536≤x) then bif decide (256≤x.fdiv 65536) then rN 24 ((x.fdiv 65536).fdiv 256) else rN 16 (x.fdiv 65536) else bif decide (256≤x) then rN 8 (x.fdiv 256) else rN 0 x):=by kernel_rfl
theorem Z8:∀ i:Fin 256,aR uD i.val=(aT i.val:Int):=by decide +kernel
theorem yN (c y n:Nat) (I:y < 256) (O:c≤24) (U:y=0→c=0∧n=0) (h:nR y (aT y)→nR n (c+aT y)):rN c y=some (.val (.int .i64 (aT n))):=by
 have G:=Z8 ⟨y,I⟩
 have G:aR uD y=(aT y:Int):=G
 have M:=CH (n:=y) (m:=8) I
 have J:=(h (lP y)).uniq (lP n)
 unfold rN
 rw [sV,show ((y:Int) % 256)=(y:Int) by omega,Int.toNat_natCast,G,dT (show (0:Int)≤y by omega),dT (show (y:Int) < 256 by omega),aM (show -9223372036854775808≤(aT y:Int)∧(aT y:Int)≤9223372036854775807 by omega),aM (show -9223372036854775808≤(c:Int)+(aT y:Int)∧(c:Int)+(aT y:Int)≤9223372036854775807 by omega),← J,Int.natCast_add]
 rfl
def GD (S:Sg) (args:List AV):Option (Bool×AV):=match args with | [.val (.int .u32 x)]=>some (bZ x, .val (.int .i64 (S.bl x.toNat))) | _=>none
theorem XN:Entry Tryz.prog 150 (GD aa):=by
 refine bg (E:=nQ) (u:=10) (d:=10) (aJ _) aN mixed (by kernel_rfl) (fun args r h=> ?_)
 unfold GD at h
 split at h
 ·rename_i x
  simp only [Option.some.injEq,Prod.mk.injEq] at h
  obtain ⟨M,rfl⟩:=h
  obtain ⟨n,U,rfl⟩:=j4 M
  rw [Z7]
  show _=some (AV.val (.int .i64 ((aT (n:Int).toNat:Nat):Int)))
  rw [Int.toNat_natCast]
  have e1:(n:Int).fdiv 65536=((n / 65536:Nat):Int):=iJ n 65536
  have I:(n:Int).fdiv 256=((n / 256:Nat):Int):=iJ n 256
  have J:((n / 65536:Nat):Int).fdiv 256=((n / 65536 / 256:Nat):Int):=iJ _ 256
  rw [e1,I,J]
  by_cases O:65536≤n
  ·rw [dT (show (65536:Int)≤n by omega)]
   by_cases G:256≤n / 65536
   ·rw [dT (show (256:Int)≤((n / 65536:Nat):Int) by omega)]
    exact yN 24 (n / 65536 / 256) n (by omega) (by omega) (by omega) (fun h=>yJ 24 (by omega) (by omega) h)
   ·rw [dF (show ¬ (256:Int)≤((n / 65536:Nat):Int) by omega)]
    exact yN 16 (n / 65536) n (by omega) (by omega) (by omega) (fun h=>yJ 16 (by omega) (by omega) h)
  ·rw [dF (show ¬ (65536:Int)≤n by omega)]
   by_cases G:256≤n
   ·rw [dT (show (256:Int)≤(n:Int) by omega)]
    exact yN 8 (n / 256) n (by omega) (by omega) (by omega) (fun h=>yJ 8 (by omega) (by omega) h)
   ·rw [dF (show ¬ (256:Int)≤(n:Int) by omega)]
    exact yN 0 n n (by omega) (by omega) (by omega) (fun h=>by grind)
 ·cases h
def qX (S:Sg):FuncId→List AV→Option (Bool×AV):=aw 150 (GD S) aK
theorem aeK (S:Sg) (G:List Int):aF Tryz.prog ⟨qX S,au,aq⟩ 10 10 157 [.lst false 129 G.length (lim G)]=
  (bif decide ((↑G.length:Int)=(0:Int)) then some (.val (.int .i64 0)) else (bif ai IntKind.i64 ((↑G.length:Int) - (1:Int)) then (bif ai IntKind.i64 ((32:Int)*((↑G.length:Int) - (1:Int))) then (bif ai IntKind.i64 ((↑G.length:Int) - (1:Int)) then (bif decide ((0:Int)≤(↑G.length:Int) - (1:Int))&&decide ((↑G.length:Int) - (1:Int) < (↑G.length:Int)) then (bif bZ (G.getD ((↑G.length:Int) - (1:Int)).toNat (0:Int)) then (bif ai IntKind.i64 ((32:Int)*((↑G.length:Int) - (1:Int))+(↑(S.bl (G.getD ((↑G.length:Int) - (1:Int)).toNat (0:Int)).toNat):Int)) then some (.val (.int .i64 ((32:Int)*((↑G.length:Int) - (1:Int))+(↑(S.bl (G.getD ((↑G.length:Int) - (1:Int)).toNat (0:Int)).toNat):Int)))) else none) else none) else none) else none) else none) else none)):=by kernel_rfl
def GX (S:Sg) (args:List AV):Option (Bool×AV):=match args with | [.lst _ 129 m f]=>some (S.can m f, .val (.int .i64 (S.bl (S.num m f)))) | _=>none
theorem It:bf Tryz.prog (qX aa):=(aJ _).add XN
theorem CG (n m:Nat) (h:n < 2 ^ m):aa.bl n≤m:=CH h
theorem Yq:Entry Tryz.prog 157 (GX aa):=by
 refine iI (E:= ⟨qX aa,au,aq⟩) (u:=10) (d:=10) It aN (by kernel_rfl) (fun args r h=> ?_)
 unfold GX at h
 split at h
 ·rename_i fl m f
  simp only [Option.some.injEq,Prod.mk.injEq] at h
  obtain ⟨a7,rfl⟩:=h
  obtain ⟨a1,b2,b3,b4,a6⟩:=tC a7
  have b1:aF Tryz.prog ⟨qX aa,au,aq⟩ 10 10 157 [.lst false 129 (rowOf m f).length (lim (rowOf m f))]=some (.val (.int .i64 (aa.bl (aa.num m f)))):=by
   rw [aeK]
   rw [a6]
   generalize b5:aa.num m f=N at*
   have hb:(toL N).length≤17592186044416:=by grind
   by_cases I:N=0
   ·subst I
    rw [toL_zero]
    rfl
   ·have Z:toL N≠ []:=fun e=>I ((toL_nil_iff N).1 e)
    have b6:0 < (toL N).length:=List.length_pos_iff.2 Z
    have e1:((toL N).length:Int) - 1=(((toL N).length - 1:Nat):Int):=by omega
    have O:(toL N).length - 1 < (toL N).length:=by omega
    obtain ⟨t,ab,bx,bD⟩:=cH (j9 N) _ O
    have b0:0 < t:=by
     have:=H8 N Z
     grind
    have aE:=nN (toL N) ((toL N).length - 1) (by omega)
    rw [List.drop_eq_getElem_cons O,bx,List.drop_of_length_le (by omega),cj,cF,cY,Int.toNat_natCast,Nat.mul_zero,Nat.add_zero] at aE
    have U:=dP (oE (j9 N) ((toL N).length - 1))
    rw [List.length_take,Nat.min_eq_left (by omega)] at U
    have M:=Td b0 U
    rw [← aE] at M
    have J:=CG t 32 ab
    have J:aT t≤32:=J
    rw [e1,Int.toNat_natCast,bD,dF (show ¬ ((toL N).length:Int)=0 by omega),bH _ (by omega),aM (show -9223372036854775808≤(32:Int)*(((toL N).length - 1:Nat):Int)∧(32:Int)*(((toL N).length - 1:Nat):Int)≤9223372036854775807 by omega),dT (show (0:Int)≤(((toL N).length - 1:Nat):Int) by omega),dT (show (((toL N).length - 1:Nat):Int) < ((toL N).length:Int) by omega),fz ab,Int.toNat_natCast]
    show (bif ai .i64 ((32:Int)*(((toL N).length - 1:Nat):Int)+(aT t:Int)) then some (AV.val (.int .i64 ((32:Int)*(((toL N).length - 1:Nat):Int)+(aT t:Int)))) else none)=some (AV.val (.int .i64 (aT N:Int)))
    rw [aM (show -9223372036854775808≤(32:Int)*(((toL N).length - 1:Nat):Int)+(aT t:Int)∧(32:Int)*(((toL N).length - 1:Nat):Int)+(aT t:Int)≤9223372036854775807 by omega),M]
    simp
  refine ⟨_,_,b1,fun B w b7 G=> ?_,fun B w y G=>G⟩
  obtain ⟨y,zs,rfl,q1,q2⟩:=G
  exact ⟨y,_,rfl,lu a1 q1,q2⟩
 ·cases h
theorem ZN (S:Sg) (x:Int):aF Tryz.prog ⟨qX S,au,aq⟩ 10 10 170 [.val (.int .u32 x)]=
  (bif bZ x then (bif ai IntKind.i64 ((32:Int) - (↑(S.bl x.toNat):Int)) then some (.val (.int .i64 ((32:Int) - (↑(S.bl x.toNat):Int)))) else none) else none):=by kernel_rfl
theorem W2 (x y z:Int):aF Tryz.prog nQ 10 10 174 [.val (.int .u32 x), .val (.int .u32 y), .val (.int .u32 z)]=
  (bif !decide (z=(0:Int)) then (bif decide (z≤x) then none else (bif ai IntKind.u64 x then (bif ai IntKind.u64 y then (bif ai IntKind.u64 z then (bif decide (z=(0:Int)) then none else (bif ai IntKind.u64 z then (bif decide (z=(0:Int)) then none else some (.tup [(.val (.int .u32 (IntKind.u32.wrap (IntKind.u64.wrap ((cm BinOp.or IntKind.u64 (IntKind.u64.wrap (x*(4294967296:Int))) y).tdiv z))))),(.val (.int .u32 (IntKind.u32.wrap ((cm BinOp.or IntKind.u64 (IntKind.u64.wrap (x*(4294967296:Int))) y).tmod z))))])) else none)) else none) else none) else none)) else (bif ai IntKind.u64 x then (bif ai IntKind.u64 y then (bif ai IntKind.u64 z then (bif decide (z=(0:Int)) then none else (bif ai IntKind.u64 z then (bif decide (z=(0:Int)) then none else some (.tup [(.val (.int .u32 (IntKind.u32.wrap (IntKind.u64.wrap ((cm BinOp.or IntKind.u64 (IntKind.u64.wrap (x*(4294967296:Int))) y).tdiv z))))),(.val (.int .u32 (IntKind.u32.wrap ((cm BinOp.or IntKind.u64 (IntKind.u64.wrap (x*(4294967296:Int))) y).tmod z))))])) else none)) else none) else none) else none)):=by kernel_rfl
theorem SV (x y z:Int):aF Tryz.prog nQ 10 10 175 [.val (.int .u32 x), .val (.int .u32 y), .val (.int .u32 z)]=
  (bif ai IntKind.u64 x then (bif ai IntKind.u64 y then (bif ai IntKind.u64 z then some (.tup [(.val (.int .u32 (IntKind.u32.wrap (IntKind.u64.wrap (IntKind.u64.wrap (x+y)+z))))),(.val (.int .u32 (IntKind.u32.wrap ((IntKind.u64.wrap (IntKind.u64.wrap (x+y)+z)).fdiv (4294967296:Int)))))]) else none) else none) else none):=by kernel_rfl
end
end Go.Proofs.YtamcpiicmfielaaGreat.L
