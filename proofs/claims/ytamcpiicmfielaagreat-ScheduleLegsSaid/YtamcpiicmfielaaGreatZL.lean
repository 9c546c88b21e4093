import Derived.Test.YtamcpiicmfielaaGreatZV2
import Derived.Test.YtamcpiicmfielaaGreatZP
import Derived.Test.YtamcpiicmfielaaGreatProg
set_option linter.unusedVariables false
set_option linter.unusedSimpArgs false
namespace Go.Proofs.YtamcpiicmfielaaGreat.L
open Go Go.V Go.RowKit Go.Proofs.YtamcpiicmfielaaGreat.Sp Go.Proofs.YtamcpiicmfielaaGreat.F Go.Proofs.YtamcpiicmfielaaGreatW.PrintWords
open Go.Proofs (Tryz.prog)
noncomputable section
def bg:Env:= ⟨fun _ _=>none,fun _=>false,fun _ _ _=>none⟩
noncomputable def lb (g:FuncId) (p:List Bool):Code:=match aI Tryz.prog g p with | some (.loop c)=>c | _=> .skip
theorem mixed:Tryz.prog.follows .mixedOrders=true:=by kernel_rfl
theorem OQ (s:ByteArray):aF s ⟨#[]⟩=decide (s.toList= []):=by
 unfold aF
 rw [show (⟨#[]⟩:ByteArray).data.toList= [] from rfl]
 by_cases h:s.toList= []
 ·rw [decide_eq_true h,(toList_nil s).1 h];rfl
 ·rw [decide_eq_false h]
  have:s.data.toList≠ []:=fun e=>h ((toList_nil s).2 e)
  cases G:s.data.toList with
  | nil=>exact absurd G this
  | cons a l=>rfl
theorem Jb (s:ByteArray) (i:Nat) (h:i < s.size):aT s i=bt s (i:Int):=by
 have G:i < s.data.toList.length:=by rw [mq];exact h
 rw [BF G]
 unfold aT
 rw [List.getD_eq_getElem?_getD,List.getElem?_eq_getElem G]
 rfl
theorem acG (s:ByteArray) (a b:Nat):dP s a b=s.extract a b:=by
 apply nA
 unfold dP
 rw [Lib.extract_data]
def mZ (s:ByteArray):List AV:= .val (.string s) :: List.replicate 12 .any
theorem acM (s:ByteArray):aP Tryz.prog bg 139 [0] (lb 139 [false,false,true]) [false,false,false,true] (mZ s) []=
  (bif !aF s ⟨#[]⟩ then bif decide ((0:Int)≤0)&&decide ((0:Int) < s.size) then bif decide (aT s 0=0) then bif decide ((0:Int)≤1)&&decide ((1:Int)≤s.size) then some (.normal,mZ (dP s 1 s.size), []) else none else some (.exit 0,mZ s, []) else none else some (.exit 0,mZ s, [])):=by kernel_rfl
theorem acJ:aI Tryz.prog 139 [false,false,true]=some (.loop (lb 139 [false,false,true])):=by kernel_rfl
theorem acK:aI Tryz.prog 139 [false,false,false,true]=some (lb 139 [false,false,true]):=by kernel_rfl
theorem Ff {s:ByteArray} {e:Ex} {T:List AV} {H:Hp} (h:aP Tryz.prog bg 139 [0] (lb 139 [false,false,true]) [false,false,false,true] (mZ s) []=some (e,T,H)):V.Ends Tryz.prog false 0 0 (lb 139 [false,false,true]) (mZ s) [] e T H:=
 bK (aK _) aO mixed acK h
theorem OV:∀ (k:Nat) (s r:ByteArray),cP.l0 k s=some r→aA Tryz.prog (lb 139 [false,false,true]) (mZ s) [] (.exit 0) (mZ r) []
 | 0,s,r,h=>by simp [cP.l0] at h
 | k+1,s,r,h=>by
  rw [cP.l0] at h
  have G:=acM s
  rw [OQ] at G
  by_cases I:s.toList= []
  ·rw [if_pos I] at h
   cases h
   rw [decide_eq_true I] at G
   exact .last (Ff G) (by intro h;cases h)
  ·rw [if_neg I] at h
   rw [decide_eq_false I] at G
   by_cases M:0 < (s.size:Int)
   ·rw [if_pos M] at h
    have e0:aT s 0=bt s 0:=Jb s 0 (by omega)
    rw [e0] at G
    simp only [M,decide_true,Bool.not_false,cond,Int.le_refl,Bool.and_self] at G
    by_cases J:bt s 0=0
    ·rw [if_pos J] at h
     by_cases O:1≤(s.size:Int)
     ·rw [if_pos O] at h
      simp only [J,O,decide_true,show ((0:Int)≤1)=True from by simp,Bool.and_self,acG] at G
      exact .more (Ff G) (OV k _ r h)
     ·rw [if_neg O] at h;cases h
    ·rw [if_neg J] at h
     cases h
     simp only [J,decide_false] at G
     exact .last (Ff G) (by intro h;cases h)
   ·rw [if_neg M] at h;cases h
def OU (T:List AV) (H:Hp):Option (Bool×Ex×List AV×Hp):=
 match T,H with
 | [.val (.string s), .any, .any, .any, .any, .any, .any, .any, .any, .any, .any, .any, .any], []=>some (true, .exit 0,mZ (av (vS s)), [])
 | _,_=>none
def A5:=ma 139 [false,false,true] [0] OU aq
theorem Ir:aC Tryz.prog A5:=aC.none.add acJ (fun T H e J I h=>by
 unfold OU at h
 split at h
 ·cases h
  obtain ⟨k,G⟩:=acN _
  exact OV k _ _ G
 ·cases h)
def Fc (args:List AV):Option (Bool×AV):=match args with | [.val (.string s)]=>some (true, .val (.string (av (vS s)))) | _=>none
def G6:Env:= ⟨aM,fun _=>false,A5⟩
theorem zf:Entry Tryz.prog 139 Fc:=by
 refine aZ (E:=G6) (u:=10) (d:=10) (aK _) Ir.ok mixed (by kernel_rfl) (fun args r h=> ?_)
 unfold Fc at h
 split at h
 ·rename_i s
  cases h
  have:aG Tryz.prog G6 10 10 139 [.val (.string s)]=some (.val (.string (av (vS s)))):=by kernel_rfl
  exact this
 ·cases h
end
end Go.Proofs.YtamcpiicmfielaaGreat.L
namespace Go.Proofs.YtamcpiicmfielaaGreat.L
open Go Go.V Go.RowKit Go.Proofs.YtamcpiicmfielaaGreat.Sp Go.Proofs.YtamcpiicmfielaaGreat.F Go.Proofs.YtamcpiicmfielaaGreatW.PrintWords
open Go.Proofs (Tryz.prog)
noncomputable section
def numOf:AV→Int
 | .val (.int .u32 z)=>z
 | _=> -1
def rowOf (m:Nat) (f:Nat→Nat→AV):List Int:=(List.range m).map fun j=>numOf (f j 0)
def okB (m:Nat) (f:Nat→Nat→AV):Bool:=(rowOf m f).all fun z=>decide (0≤z)&&decide (z < 4294967296)
def lim (zs:List Int):Nat→Nat→AV:=fun j _=> .val (.int .u32 (zs.getD j 0))
def xH (n:Nat):AV:= .lst false 129 (toL n).length (lim (toL n))
theorem pG (zs:List Int) {m:Nat} (h:m≤zs.length):rowOf m (lim zs)=zs.take m:=by
 apply List.ext_getElem?
 intro i
 unfold rowOf lim
 rw [List.getElem?_map,List.getElem?_take]
 simp only [numOf]
 by_cases hi:i < m
 ·rw [List.getElem?_range hi,if_pos hi,List.getElem?_eq_getElem (by omega)]
  simp only [Option.map_some,List.getD_eq_getElem?_getD,List.getElem?_eq_getElem (show i < zs.length by omega),Option.getD_some,numOf]
 ·rw [if_neg hi,List.getElem?_eq_none (by simpa using hi)]
  rfl
theorem lO (n:Nat):rowOf (toL n).length (lim (toL n))=toL n:=by rw [pG _ (Nat.le_refl _),List.take_length]
theorem e9 (m:Nat) (f:Nat→Nat→AV):okB m f=true↔aH (rowOf m f):=by
 unfold okB aH
 rw [List.all_eq_true]
 constructor
 ·intro h x G
  have:=h x G
  simpa using this
 ·intro h x G
  have:=h x G
  simpa using this
theorem jM (n:Nat):okB (toL n).length (lim (toL n))=true:=by rw [e9,lO];exact jN n
theorem cz (m:Nat) (f:Nat→Nat→AV):(rowOf m f).length=m:=by simp [rowOf]
section
variable {P : Program} {α : Nat → Nat × Nat} {B : Nat → Prop} {w : World} {D : Nat → Prop} {x : Value}
theorem NO {fl:Bool} {t:TypeId} {m:Nat} {f g:Nat→Nat→AV} (b0:P.cellsOf t=1) (a7:∀ j,j < m→f j 0=g j 0) (h:(AV.lst fl t m f).Rel P α B w D x):(AV.lst fl t m g).Rel P α B w D x:=by
 obtain ⟨A,cap,J,O,U,G⟩:=h
 refine ⟨A,cap,J,O,U, ?_⟩
 rcases G with G | ⟨b,o,cs,ty,fr,Z,ab,aE,a1⟩
 ·exact .inl G
 ·refine .inr ⟨b,o,cs,ty,fr,Z,ab,aE,fun j k I bx=> ?_⟩
  obtain ⟨y,a6,M⟩:=a1 j k I bx
  have bD:k=0:=by omega
  subst bD
  exact ⟨y,a6,by rw [← a7 j I];exact M⟩
theorem cB {fl:Bool} {t:TypeId} {m:Nat} {f:Nat→Nat→AV} (J:P.cellsOf t=1) (O:okB m f=true) (h:(AV.lst fl t m f).Rel P α B w D x):(AV.lst fl t m (lim (rowOf m f))).Rel P α B w D x:=by
 refine NO J (fun j M=> ?_) h
 have I:j < (rowOf m f).length:=by rw [cz];exact M
 have G:=(e9 m f).1 O _ (List.getElem_mem I)
 unfold lim
 rw [List.getD_eq_getElem?_getD,List.getElem?_eq_getElem I,Option.getD_some]
 have e:(rowOf m f)[j]=numOf (f j 0):=by simp [rowOf]
 rw [e] at G ⊢
 unfold numOf at G ⊢
 split at G
 ·rename_i z U
  rw [U]
 ·omega
end
theorem il {E:Env} {g:FuncId} (a1:bf Tryz.prog E.C) (a6:dg Tryz.prog E) (a7:fQ Tryz.prog g=true) {u d:Nat} {f:List AV→Option (Bool×AV)}
  (h:∀ args r,f args=some (true,r)→∃ G v,aG Tryz.prog E u d g G=some v∧(∀ (B:Nat→Prop) (w:World) (I:List Value),aj Tryz.prog cp B w args bc I→aj Tryz.prog cp B w G bc I)∧(∀ (B:Nat→Prop) (w:World) (y:Value),v.Rel Tryz.prog cp B w bc y→r.Rel Tryz.prog cp B w bc y)):Entry Tryz.prog g f:=by
 intro args r bx B w b0 aE bD
 obtain ⟨G,v,J,M,O⟩:=h args r bx
 refine (qy a1 a6 mixed a7 J B w b0 aE (M B w _ bD)).mono ?_
 rintro e w' ⟨y,U,Z,ab⟩
 exact ⟨y,U,Z,O B w' y ab⟩
def na (zs:List Int) (m:Nat):List AV:= .lst false 129 m (lim zs) :: List.replicate 20 .any
theorem adT:aI Tryz.prog 140 [false,false,true]=some (.loop (lb 140 [false,false,true])):=by kernel_rfl
theorem adV:aI Tryz.prog 140 [false,false,false,true]=some (lb 140 [false,false,true]):=by kernel_rfl
theorem Pf (zs:List Int) (m:Nat):aP Tryz.prog bg 140 [0] (lb 140 [false,false,true]) [false,false,false,true] (na zs m) []=
  (bif decide ((0:Int) < m) then bif ah .i64 ((m:Int) - 1) then bif decide (0≤(m:Int) - 1)&&decide ((m:Int) - 1 < m) then bif decide (zs.getD ((m:Int) - 1).toNat 0=0) then bif ah .i64 ((m:Int) - 1) then bif decide (0≤(m:Int) - 1)&&decide ((m:Int) - 1≤m) then some (.normal,na zs ((m:Int) - 1).toNat, []) else none else none else some (.exit 0,na zs m, []) else none else none else some (.exit 0,na zs m, [])):=by kernel_rfl
theorem GC {zs:List Int} {m:Nat} {e:Ex} {T:List AV} {H:Hp} (h:aP Tryz.prog bg 140 [0] (lb 140 [false,false,true]) [false,false,false,true] (na zs m) []=some (e,T,H)):V.Ends Tryz.prog false 0 0 (lb 140 [false,false,true]) (na zs m) [] e T H:=
 bK (aK _) aO mixed adV h
theorem fu {z:Int} (G: -9223372036854775808≤z) (I:z≤9223372036854775807):ah .i64 z=true:=by
 unfold ah
 rw [Bool.and_eq_true,decide_eq_true_eq,decide_eq_true_eq]
 exact ⟨G,I⟩
def kY (zs:List Int):Nat→Nat
 | 0=>0
 | m+1=>if zs.getD m 0=0 then kY zs m else m+1
theorem Pe (zs:List Int):∀ (m:Nat),m≤140737488355328→aA Tryz.prog (lb 140 [false,false,true]) (na zs m) [] (.exit 0) (na zs (kY zs m)) []
 | 0,_=> .last (GC (by rw [Pf];rfl)) (by intro h;cases h)
 | m+1,I=>by
  have G:=Pf zs (m+1)
  have e1:(((m+1:Nat):Int) - 1)=(m:Int):=by omega
  rw [e1,fu (by omega) (by omega),decide_eq_true (show (0:Int) < ((m+1:Nat):Int) by omega),decide_eq_true (show (0:Int)≤(m:Int) by omega),decide_eq_true (show (m:Int) < ((m+1:Nat):Int) by omega),decide_eq_true (show (m:Int)≤((m+1:Nat):Int) by omega),Int.toNat_natCast] at G
  unfold kY
  by_cases h:zs.getD m 0=0
  ·rw [if_pos h]
   rw [decide_eq_true h] at G
   exact .more (GC G) (Pe zs m (by omega))
  ·rw [if_neg h]
   rw [decide_eq_false h] at G
   exact .last (GC G) (by intro h;cases h)
theorem Pb (zs:List Int):∀ m,kY zs m≤m
 | 0=>Nat.le_refl _
 | m+1=>by
  unfold kY
  split
  ·exact Nat.le_trans (Pb zs m) (Nat.le_succ m)
  ·exact Nat.le_refl _
theorem Pc {zs:List Int} (I:aH zs):∀ m,m≤zs.length→zs.take (kY zs m)=toL (vL (zs.take m))
 | 0,_=>by rw [kY,List.take_zero,cC,toL_zero]
 | m+1,M=>by
  have G:m < zs.length:=M
  have J:zs.getD m 0=zs[m]:=by rw [List.getD_eq_getElem?_getD,List.getElem?_eq_getElem G];rfl
  have O:zs.take (m+1)=zs.take m ++ [zs[m]]:=by rw [List.take_add_one,List.getElem?_eq_getElem G];rfl
  unfold kY
  by_cases h:zs.getD m 0=0
  ·rw [if_pos h,Pc I m (by omega),O,lX,show zs[m]=0 by rw [← J];exact h]
   simp [b8,cC]
  ·rw [if_neg h]
   have U:aH (zs.take (m+1)):=fun x Z=>I x (List.mem_of_mem_take Z)
   refine Cl U (fun _=> ?_)
   rw [List.length_take,Nat.min_eq_left M,O,lX,List.length_take,Nat.min_eq_left (by omega),b8,cC]
   have ab:=I _ (List.getElem_mem G)
   have:1≤(zs[m]).toNat:=by
    have:zs[m]≠0:=by rw [← J];exact h
    omega
   simp only [Nat.mul_zero,Nat.add_zero,Nat.add_sub_cancel]
   have:=Nat.mul_le_mul_left (4294967296 ^ m) this
   omega
def Pa (T:List AV) (H:Hp):Option (Bool×Ex×List AV×Hp):=
 match T,H with
 | [.lst false 129 m f, .any, .any, .any, .any, .any, .any, .any, .any, .any, .any, .any, .any, .any, .any, .any, .any, .any, .any, .any, .any], []=>some (okB m f&&decide (m≤140737488355328), .exit 0,na (rowOf m f) (kY (rowOf m f) m), [])
 | _,_=>none
theorem cr:Tryz.prog.cellsOf 129=1:=by kernel_rfl
def Is:=ma 140 [false,false,true] [0] Pa A5
theorem P2:aC Tryz.prog Is:=Ir.nt adT (fun T H e Z U h=>by
 unfold Pa at h
 split at h
 ·rename_i m f
  simp only [Option.some.injEq,Prod.mk.injEq,Bool.and_eq_true,decide_eq_true_eq] at h
  obtain ⟨⟨M,J⟩,rfl,rfl,rfl⟩:=h
  refine Ends.pre (Pe (rowOf m f) m J).ends (fun α B w D ab O=> ?_)
  obtain ⟨y,zs,rfl,G,I⟩:=O
  exact ⟨y,zs,rfl,cB cr M G,I⟩
 ·cases h)
def Al:Env:= ⟨au 139 Fc aM,fun _=>false,Is⟩
theorem PV:bf Tryz.prog Al.C:=(aK _).add zf
def O9 (args:List AV):Option (Bool×AV):=match args with | [.lst fl 129 m f]=>some (okB m f&&decide (m≤140737488355328),xH (vL (rowOf m f))) | _=>none
theorem adU (zs:List Int) (m:Nat):aG Tryz.prog Al 10 10 140 [.lst false 129 m (lim zs)]=(bif okB m (lim zs)&&decide (m≤140737488355328) then some (.lst false 129 (kY (rowOf m (lim zs)) m) (lim (rowOf m (lim zs)))) else none):=by kernel_rfl
theorem Pd:Entry Tryz.prog 140 O9:=by
 refine il (E:=Al) (u:=10) (d:=10) PV P2.ok (by kernel_rfl) (fun args r h=> ?_)
 unfold O9 at h
 split at h
 ·rename_i fl m f
  simp only [Option.some.injEq,Prod.mk.injEq,Bool.and_eq_true,decide_eq_true_eq] at h
  obtain ⟨⟨J,a1⟩,rfl⟩:=h
  have a6:=cz m f
  have M:=(e9 m f).1 J
  have O:rowOf m (lim (rowOf m f))=rowOf m f:=by rw [pG _ (by omega),List.take_of_length_le (by omega)]
  have I:=adU (rowOf m f) m
  rw [O,show okB m (lim (rowOf m f))=true by rw [e9,O];exact M,decide_eq_true a1] at I
  refine ⟨_,_,I,fun B w a7 G=> ?_,fun B w y G=> ?_⟩
  ·obtain ⟨y,zs,rfl,Z,ab⟩:=G
   exact ⟨y,zs,rfl,tV (cB cr J Z),ab⟩
  ·have e:=Pc M m (by omega)
   rw [show (rowOf m f).take m=rowOf m f from List.take_of_length_le (by omega)] at e
   have U:kY (rowOf m f) m=(toL (vL (rowOf m f))).length:=by
    rw [← e,List.length_take,Nat.min_eq_left (Nat.le_trans (Pb _ _) (by omega))]
   unfold xH
   rw [← U]
   refine NO cr (fun j aE=> ?_) G
   unfold lim
   rw [← e,List.getD_eq_getElem?_getD,List.getD_eq_getElem?_getD,List.getElem?_take,if_pos aE]
 ·cases h
end
end Go.Proofs.YtamcpiicmfielaaGreat.L
namespace Go.Proofs.YtamcpiicmfielaaGreat.L
open Go Go.V Go.RowKit Go.Proofs.YtamcpiicmfielaaGreat.Sp Go.Proofs.YtamcpiicmfielaaGreat.F Go.Proofs.YtamcpiicmfielaaGreatW.PrintWords
open Go.Proofs (Tryz.prog)
noncomputable section
def pJ (zs us:List Int) (m:Nat) (i:Int):List AV:=ao 43 [(0, .lst false 129 m (lim zs)),(1, .lst false 129 m (lim us)),(5, .val (.int .i64 i))]
theorem SO:aI Tryz.prog 107 [false,true,false,true,true]=some (.loop (lb 107 [false,true,false,true,true])):=by kernel_rfl
theorem SP:aI Tryz.prog 107 [false,false,true,false,true,true]=some (lb 107 [false,true,false,true,true]):=by kernel_rfl
theorem JB (zs us:List Int) (m:Nat) (i:Int):aP Tryz.prog bg 107 [0,1,4,5] (lb 107 [false,true,false,true,true]) [false,false,true,false,true,true] (pJ zs us m i) []=
  (bif decide (0≤i) then bif decide (0≤i)&&decide (i < m) then bif decide (0≤i)&&decide (i < m) then bif decide (zs.getD i.toNat 0 < us.getD i.toNat 0) then some (.ret,ao 43 [(0, .lst false 129 m (lim zs)),(1, .lst false 129 m (lim us)),(4, .val (.int .i64 (-1))),(5, .val (.int .i64 i))], [])
   else bif decide (0≤i)&&decide (i < m) then bif decide (0≤i)&&decide (i < m) then bif decide (us.getD i.toNat 0 < zs.getD i.toNat 0) then some (.ret,ao 43 [(0, .lst false 129 m (lim zs)),(1, .lst false 129 m (lim us)),(4, .val (.int .i64 1)),(5, .val (.int .i64 i))], [])
   else bif ah .i64 (i - 1) then some (.normal,pJ zs us m (i - 1), []) else none else none else none else none else none else some (.exit 0,pJ zs us m i, [])):=by kernel_rfl
theorem xa {zs us:List Int} {m:Nat} {i:Int} {e:Ex} {T:List AV} {H:Hp} (h:aP Tryz.prog bg 107 [0,1,4,5] (lb 107 [false,true,false,true,true]) [false,false,true,false,true,true] (pJ zs us m i) []=some (e,T,H)):V.Ends Tryz.prog false 0 0 (lb 107 [false,true,false,true,true]) (pJ zs us m i) [] e T H:=
 bK (aK _) aO mixed SP h
def fJ (zs us:List Int):Nat→Int
 | 0=>0
 | j+1=>if zs.getD j 0 < us.getD j 0 then -1 else if us.getD j 0 < zs.getD j 0 then 1 else fJ zs us j
def Jx (c:Int):Ex:=if c=0 then .exit 0 else .ret
def Jy (c:Int):List AV:=if c=0 then ao 43 [] else ao 43 [(4, .val (.int .i64 c))]
theorem JA (zs us:List Int) (m:Nat):∀ (d:Nat),d≤m→m≤140737488355328→aA Tryz.prog (lb 107 [false,true,false,true,true]) (pJ zs us m ((d:Int) - 1)) [] (Jx (fJ zs us d)) (Jy (fJ zs us d)) []
 | 0,_,_=> .last (xJ (keep:= []) (xa (by rw [JB];rfl)) (by kernel_rfl)) (by intro h;cases h)
 | d+1,O,M=>by
  have G:=JB zs us m (d:Int)
  rw [decide_eq_true (show (0:Int)≤(d:Int) by omega),decide_eq_true (show (d:Int) < (m:Int) by omega),fu (by omega) (by omega),Int.toNat_natCast] at G
  rw [show (((d+1:Nat):Int) - 1)=(d:Int) by omega]
  unfold fJ
  by_cases I:zs.getD d 0 < us.getD d 0
  ·rw [if_pos I]
   rw [decide_eq_true I] at G
   exact .last (xJ (keep:= [4]) (xa G) (by kernel_rfl)) (by intro h;cases h)
  ·rw [if_neg I]
   rw [decide_eq_false I] at G
   by_cases J:us.getD d 0 < zs.getD d 0
   ·rw [if_pos J]
    rw [decide_eq_true J] at G
    exact .last (xJ (keep:= [4]) (xa G) (by kernel_rfl)) (by intro h;cases h)
   ·rw [if_neg J]
    rw [decide_eq_false J] at G
    exact .more (xa G) (JA zs us m d (by omega) M)
theorem Jw {zs us:List Int} (O:aH zs) (J:aH us):∀ d,d≤zs.length→d≤us.length→fJ zs us d=cu (vL (zs.take d)) (vL (us.take d))
 | 0,_,_=>by simp [fJ,cu]
 | d+1,G,I=>by
  have g1:zs.getD d 0=zs[d]:=by rw [List.getD_eq_getElem?_getD,List.getElem?_eq_getElem G];rfl
  have g2:us.getD d 0=us[d]:=by rw [List.getD_eq_getElem?_getD,List.getElem?_eq_getElem I];rfl
  have aE:zs.take (d+1)=zs.take d ++ [zs[d]]:=by rw [List.take_add_one,List.getElem?_eq_getElem G];rfl
  have a1:us.take (d+1)=us.take d ++ [us[d]]:=by rw [List.take_add_one,List.getElem?_eq_getElem I];rfl
  have U:=dQ (l:=zs.take d) (fun x M=>O x (List.mem_of_mem_take M))
  have Z:=dQ (l:=us.take d) (fun x M=>J x (List.mem_of_mem_take M))
  have ab:=Jw O J d (by omega) (by omega)
  have o1:=O _ (List.getElem_mem G)
  have o2:=J _ (List.getElem_mem I)
  rw [List.length_take,Nat.min_eq_left (by omega)] at U Z
  unfold fJ
  rw [g1,g2,aE,a1,lX,lX,List.length_take,List.length_take,Nat.min_eq_left (by omega),Nat.min_eq_left (by omega),b8,b8,cC,ab]
  generalize vL (zs.take d)=a at*
  generalize vL (us.take d)=b at*
  generalize zs[d]=x at*
  generalize us[d]=y at*
  simp only [Nat.mul_zero,Nat.add_zero]
  unfold cu
  by_cases c1:x < y
  ·have:=Nat.mul_le_mul_left (4294967296 ^ d) (show x.toNat+1≤y.toNat by omega)
   rw [Nat.mul_add,Nat.mul_one] at this
   rw [if_pos c1,if_pos (by omega)]
  ·rw [if_neg c1]
   by_cases c2:y < x
   ·have:=Nat.mul_le_mul_left (4294967296 ^ d) (show y.toNat+1≤x.toNat by omega)
    rw [Nat.mul_add,Nat.mul_one] at this
    rw [if_pos c2,if_neg (by omega),if_pos (by omega)]
   ·have:x=y:=by omega
    subst this
    rw [if_neg c2]
    simp only [Nat.add_lt_add_iff_right]
def dW (m:Nat) (f:Nat→Nat→AV):Bool:=okB m f&&decide (rowOf m f=toL (vL (rowOf m f)))
theorem wX (n:Nat):dW (toL n).length (lim (toL n))=true:=by
 unfold dW
 rw [jM,lO,cX]
 simp
def sP (w:Bool) (m n:Nat) (f g:Nat→Nat→AV) (i:Int):Bool:=
 okB m f&&okB n g&&decide (m=n)&&decide (-1≤i)&&decide (i < m)&&decide (m≤140737488355328)&&(decide (fJ (rowOf m f) (rowOf n g) (i+1).toNat=0)==w)
def BS (w:Bool) (T:List AV) (H:Hp):Option (Bool×Ex×List AV×Hp):=
 match al T 0,al T 1,al T 5,H with
 | .lst false 129 m f, .lst false 129 n g, .val (.int .i64 i), []=>bif T.length==43 then some (sP w m n f g i,bif w then .exit 0 else .ret,bif w then ao 43 [] else ao 43 [(4, .val (.int .i64 (fJ (rowOf m f) (rowOf n g) (i+1).toNat)))], []) else none
 | _,_,_,_=>none
theorem SM (w:Bool) (T:List AV) (H:Hp) (e:Ex) (U:List AV) (O:Hp) (h:BS w T H=some (true,e,U,O)):V.Ends Tryz.prog false 0 0 (.loop (lb 107 [false,true,false,true,true])) T H e U O:=by
 unfold BS at h
 split at h
 ·rename_i m f n g i a1 a6 a7
  rw [Bool.cond_eq_ite] at h
  split at h
  ·rename_i Z
   rw [beq_iff_eq] at Z
   simp only [Option.some.injEq,Prod.mk.injEq] at h
   obtain ⟨M,rfl,rfl,rfl⟩:=h
   unfold sP at M
   simp only [Bool.and_eq_true,decide_eq_true_eq] at M
   obtain ⟨⟨⟨⟨⟨⟨k1,b0⟩,rfl⟩,b2⟩,b3⟩,b1⟩,aE⟩:=M
   have G:=(JA (rowOf m f) (rowOf m g) m (i+1).toNat (by omega) b1).ends
   rw [show (((i+1).toNat:Nat):Int) - 1=i by omega] at G
   have bx:V.Ends Tryz.prog false 0 0 (.loop (lb 107 [false,true,false,true,true])) (pJ (rowOf m f) (rowOf m g) m i) [] (bif w then .exit 0 else .ret) (bif w then ao 43 [] else ao 43 [(4, .val (.int .i64 (fJ (rowOf m f) (rowOf m g) (i+1).toNat)))]) []:=by
    generalize fJ (rowOf m f) (rowOf m g) (i+1).toNat=c at*
    unfold Jx Jy at G
    cases w with
    | true=>
     have J:c=0:=by simpa using aE
     rw [if_pos J,if_pos J] at G
     exact G
    | false=>
     have J:c≠0:=by simpa using aE
     rw [if_neg J,if_neg J] at G
     exact G
   refine Ends.pre bx (fun α B w D b4 bD=>bw Z (fun p ab y I=> ?_) bD)
   simp only [List.mem_cons,List.not_mem_nil,or_false] at ab
   rcases ab with rfl | rfl | rfl
   ·rw [a1] at I;exact cB cr k1 I
   ·rw [a6] at I;exact cB cr b0 I
   ·rw [a7] at I;exact I
  ·cases h
 ·cases h
def Am (w:Bool):Env:= ⟨aM,fun _=>false,ma 107 [false,true,false,true,true] [0,1,5] (BS w) aq⟩
theorem PW (w:Bool):dg Tryz.prog (Am w):=(aC.none.nt SO (SM w)).ok
theorem Jz (w:Bool) (zs us:List Int) (m n:Nat):aG Tryz.prog (Am w) 10 10 107 [.lst false 129 m (lim zs), .lst false 129 n (lim us)]=
  (bif !decide ((m:Int)=n) then bif decide ((m:Int) < n) then some (.val (.int .i64 (-1))) else some (.val (.int .i64 1)) else bif ah .i64 ((m:Int) - 1) then bif sP w m n (lim zs) (lim us) ((m:Int) - 1) then (match w with | true=>some (.val (.int .i64 0)) | false=>some (.val (.int .i64 (fJ (rowOf m (lim zs)) (rowOf n (lim us)) ((m:Int) - 1+1).toNat)))) else none else none):=by
 cases w <;> kernel_rfl
def JE (args:List AV):Option (Bool×AV):=match args with
 | [.lst _ 129 m f, .lst _ 129 n g]=>some (dW m f&&dW n g&&decide (m≤140737488355328)&&decide (n≤140737488355328), .val (.int .i64 (cu (vL (rowOf m f)) (vL (rowOf n g)))))
 | _=>none
theorem JF:Entry Tryz.prog 107 JE:=by
 intro args r M
 unfold JE at M
 split at M
 ·rename_i c5 m f c6 n g
  simp only [Option.some.injEq,Prod.mk.injEq,Bool.and_eq_true,decide_eq_true_eq] at M
  obtain ⟨⟨⟨⟨I,J⟩,b0⟩,c7⟩,rfl⟩:=M
  unfold dW at I J
  rw [Bool.and_eq_true,decide_eq_true_eq] at I J
  have l1:=cz m f
  have l2:=cz n g
  have Z:rowOf m (lim (rowOf m f))=rowOf m f:=by rw [pG _ (by omega),List.take_of_length_le (by omega)]
  have ab:rowOf n (lim (rowOf n g))=rowOf n g:=by rw [pG _ (by omega),List.take_of_length_le (by omega)]
  have o1:=(e9 m f).1 I.1
  have o2:=(e9 n g).1 J.1
  have a1:okB m (lim (rowOf m f))=true:=by rw [e9,Z];exact o1
  have a6:okB n (lim (rowOf n g))=true:=by rw [e9,ab];exact o2
  have b5:∃ w v,aG Tryz.prog (Am w) 10 10 107 [.lst false 129 m (lim (rowOf m f)), .lst false 129 n (lim (rowOf n g))]=some v∧v= .val (.int .i64 (cu (vL (rowOf m f)) (vL (rowOf n g)))):=by
   by_cases b1:m=n
   ·subst b1
    have U:=Jw o1 o2 m (by omega) (by omega)
    rw [List.take_of_length_le (by omega),List.take_of_length_le (by omega)] at U
    have G:=Jz (decide (fJ (rowOf m f) (rowOf m g) m=0)) (rowOf m f) (rowOf m g) m m
    have e1:((m:Int) - 1+1).toNat=m:=by omega
    have bD:sP (decide (fJ (rowOf m f) (rowOf m g) m=0)) m m (lim (rowOf m f)) (lim (rowOf m g)) ((m:Int) - 1)=true:=by
     unfold sP
     rw [a1,a6,Z,ab,e1,decide_eq_true (show (-1:Int)≤(m:Int) - 1 by omega),decide_eq_true (show ((m:Int) - 1) < (m:Int) by omega),decide_eq_true b0]
     simp
    rw [bD,Z,ab,e1,fu (by omega) (by omega)] at G
    simp only [decide_true,Bool.not_true,cond] at G
    by_cases O:fJ (rowOf m f) (rowOf m g) m=0
    ·rw [decide_eq_true O] at G
     exact ⟨_,_,G,by rw [← U,O]⟩
    ·rw [decide_eq_false O] at G
     exact ⟨_,_,G,by rw [← U]⟩
   ·have G:=Jz true (rowOf m f) (rowOf n g) m n
    rw [decide_eq_false (show ¬ (m:Int)=n by omega)] at G
    have e1:(toL (vL (rowOf m f))).length=m:=by rw [← I.2,l1]
    have c4:(toL (vL (rowOf n g))).length=n:=by rw [← J.2,l2]
    by_cases aE:(m:Int) < n
    ·rw [decide_eq_true aE] at G
     refine ⟨_,_,G, ?_⟩
     have:=K8 (show (toL (vL (rowOf m f))).length < (toL (vL (rowOf n g))).length by omega)
     have a7:=ly (Nat.le_refl (toL (vL (rowOf m f))).length)
     unfold cu
     rw [if_pos (by omega)]
    ·rw [decide_eq_false aE] at G
     refine ⟨_,_,G, ?_⟩
     have:=K8 (show (toL (vL (rowOf n g))).length < (toL (vL (rowOf m f))).length by omega)
     have a7:=ly (Nat.le_refl (toL (vL (rowOf n g))).length)
     unfold cu
     rw [if_neg (by omega),if_pos (by omega)]
  obtain ⟨w,v,b2,rfl⟩:=b5
  intro B ch ct bx b3
  refine qy (aK _) (PW w) mixed (by kernel_rfl) b2 B ch ct bx ?_
  obtain ⟨y,zs,b4,q1,q2⟩:=b3
  obtain ⟨c0,c3,rfl,b6,b7⟩:=q2
  rw [b4]
  exact ⟨y,_,rfl,tV (cB cr I.1 q1),c0,c3,rfl,tV (cB cr J.1 b6),b7⟩
 ·cases M
end
end Go.Proofs.YtamcpiicmfielaaGreat.L
namespace Go.Proofs.YtamcpiicmfielaaGreat.L
open Go Go.V Go.RowKit Go.Proofs.YtamcpiicmfielaaGreat.Sp Go.Proofs.YtamcpiicmfielaaGreat.F Go.Proofs.YtamcpiicmfielaaGreatW.PrintWords
open Go.Proofs (Tryz.prog)
noncomputable section
def nY (s:ByteArray) (m:Nat) (n i:Int):List AV:=ao 41 [(0, .val (.string s)),(3, .sl false 129 0 0 m),(15, .val (.int .i64 n)),(16, .val (.int .i64 i))]
def nM (zs:List Int):Hp:= [.row (.ints .u32 zs) 129 .live]
abbrev jP:List Bool:= [false,true,false,true,true,true]
theorem X1:aI Tryz.prog 106 jP=some (.loop (lb 106 jP)):=by kernel_rfl
theorem X3:aI Tryz.prog 106 (false :: jP)=some (lb 106 jP):=by kernel_rfl
theorem Lt (s:ByteArray) (zs:List Int) (m:Nat) (n i:Int):aP Tryz.prog bg 106 [0,3,15,16] (lb 106 jP) (false :: jP) (nY s m n i) (nM zs)=
  (bif decide (i < n) then bif ah .i64 ((s.size:Int) - 1) then bif ah .i64 ((s.size:Int) - 1 - i) then bif ah .i64 (i.tdiv 4) then
   bif decide (0≤i.tdiv 4)&&decide (i.tdiv 4 < m) then bif decide (0+(i.tdiv 4).toNat*1 < zs.length) then bif decide (0≤(s.size:Int) - 1 - i)&&decide ((s.size:Int) - 1 - i < s.size) then
   bif ah .u32 (aT s ((s.size:Int) - 1 - i).toNat) then bif ah .i64 (8*i.tmod 4) then bif decide (8*i.tmod 4 < 0) then none else
   bif decide (0≤i.tdiv 4)&&decide (i.tdiv 4 < m) then bif decide (0+(i.tdiv 4).toNat*1 < zs.length) then bif ah .i64 (i+1) then
   some (.normal,nY s m n (i+1),nM (zs.set (0+(i.tdiv 4).toNat*1) (b9 .or .u32 (zs.getD (0+(i.tdiv 4).toNat*1) 0) (IntKind.u32.wrap (aT s ((s.size:Int) - 1 - i).toNat*2 ^ min (8*i.tmod 4).toNat IntKind.u32.bits)))))
   else none else none else none else none else none else none else none else none else none else none else none else some (.exit 0,nY s m n i,nM zs)):=by kernel_rfl
theorem Lv {s:ByteArray} {zs:List Int} {m:Nat} {n i:Int} {e:Ex} {T:List AV} {H:Hp} (h:aP Tryz.prog bg 106 [0,3,15,16] (lb 106 jP) (false :: jP) (nY s m n i) (nM zs)=some (e,T,H)):V.Ends Tryz.prog false 0 0 (lb 106 jP) (nY s m n i) (nM zs) e T H:=
 bK (aK _) aO mixed X3 h
def qX (s:ByteArray) (i:Nat) (out:List Int):List Int:=out.set (i / 4) (b9 .or .u32 (out.getD (i / 4) 0) (IntKind.u32.wrap (aT s (s.size - 1 - i)*2 ^ min (8*(i % 4)) IntKind.u32.bits)))
def o7 (s:ByteArray):Nat→Nat→List Int→List Int
 | 0,_,out=>out
 | d+1,i,out=>o7 s d (i+1) (qX s i out)
theorem lj (s:ByteArray) (i:Nat):0≤aT s i∧aT s i < 256:=by
 unfold aT
 have:=(s.data.toList.getD i 0).toNat_lt
 omega
theorem Ls (s:ByteArray) (m:Nat) (Z:s.size≤140737488355328) (U:m=(s.size+3) / 4):∀ (d i:Nat) (out:List Int),i+d=s.size→out.length=m→aA Tryz.prog (lb 106 jP) (nY s m s.size i) (nM out) (.exit 0) (nY s m s.size s.size) (nM (o7 s d i out))
 | 0,i,out,hi,I=>by
  have G:=Lt s out m s.size i
  have:i=s.size:=by omega
  subst this
  rw [decide_eq_false (show ¬ ((s.size:Int) < s.size) by omega)] at G
  exact .last (Lv G) (by intro h;cases h)
 | d+1,i,out,hi,I=>by
  have G:=Lt s out m s.size i
  have e1:(i:Int).tdiv 4=((i / 4:Nat):Int):=CR i
  have J:(i:Int).tmod 4=((i % 4:Nat):Int):=CU i
  have M:(s.size:Int) - 1 - i=((s.size - 1 - i:Nat):Int):=by omega
  have O:8*((i % 4:Nat):Int)=((8*(i % 4):Nat):Int):=by omega
  have hb:=lj s (s.size - 1 - i)
  rw [e1,J,M,O,Int.toNat_natCast,Int.toNat_natCast,Int.toNat_natCast,Nat.zero_add,Nat.mul_one] at G
  rw [decide_eq_true (show (i:Int) < s.size by omega),fu (show -9223372036854775808≤(s.size:Int) - 1 by omega) (by omega),fu (show -9223372036854775808≤((s.size - 1 - i:Nat):Int) by omega) (by omega),fu (show -9223372036854775808≤((i / 4:Nat):Int) by omega) (by omega),fu (show -9223372036854775808≤((8*(i % 4):Nat):Int) by omega) (by omega),fu (show -9223372036854775808≤(i:Int)+1 by omega) (by omega),
   decide_eq_true (show (0:Int)≤((i / 4:Nat):Int) by omega),decide_eq_true (show ((i / 4:Nat):Int) < (m:Int) by omega),decide_eq_true (show i / 4 < out.length by omega),decide_eq_true (show (0:Int)≤((s.size - 1 - i:Nat):Int) by omega),decide_eq_true (show ((s.size - 1 - i:Nat):Int) < (s.size:Int) by omega),decide_eq_false (show ¬ (((8*(i % 4):Nat):Int) < 0) by omega),
   show ah .u32 (aT s (s.size - 1 - i))=true by unfold ah;rw [Bool.and_eq_true,decide_eq_true_eq,decide_eq_true_eq];exact ⟨hb.1,by have:IntKind.u32.max=4294967295:=rfl;omega⟩] at G
  refine .more (Lv G) ?_
  have:=Ls s m Z U d (i+1) (qX s i out) (by omega) (by unfold qX;rw [List.length_set];exact I)
  rw [show ((i+1:Nat):Int)=(i:Int)+1 by omega] at this
  exact this
theorem Lr (s:ByteArray) (J:s.size≤140737488355328):∀ (d k i:Nat) (out:List Int),i+d=s.size→d < k→out.length=(s.size+3) / 4→du.l0 k s out s.size i=some (o7 s d i out)
 | 0,k,i,out,hi,I,G=>by
  obtain ⟨k,rfl⟩:∃ m,k=m+1:= ⟨k - 1,by omega⟩
  rw [du.l0,if_neg (by omega)]
  rfl
 | d+1,k,i,out,hi,I,G=>by
  obtain ⟨k,rfl⟩:∃ m,k=m+1:= ⟨k - 1,by omega⟩
  rw [du.l0,CR,CU,K4 i (by omega),ld1 s.size i (by omega) (by omega),K5,K6 i (by omega)]
  rw [if_pos (by omega),if_pos (by omega),if_pos (by omega),if_pos (by omega),if_pos (by omega),if_pos (by omega)]
  have hb:=Jb s (s.size - 1 - i) (by omega)
  have O:=lj s (s.size - 1 - i)
  rw [← hb,show aT s (s.size - 1 - i) % 4294967296=aT s (s.size - 1 - i) by omega]
  have M:out.set (((i / 4:Nat):Int)).toNat (Go.bits .or .u32 (rd out ((i / 4:Nat):Int)) (shl .u32 (aT s (s.size - 1 - i)) ((8*(i % 4):Nat):Int)))=qX s i out:=by
   unfold qX shl rd
   rw [Int.toNat_natCast,Int.toNat_natCast]
   rfl
  rw [M]
  exact Lr s J d k (i+1) _ (by omega) (by omega) (by unfold qX;rw [List.length_set];exact G)
theorem X0 (s:ByteArray) (I:s.size≤140737488355328):∃ r,o7 s s.size 0 (List.replicate ((s.size+3) / 4) 0)=r∧aH r∧r.length=(s.size+3) / 4∧vL r=vS s:=by
 obtain ⟨r,G,J,M,O⟩:=X4 s I s.size (s.size+1) 0 (List.replicate ((s.size+3) / 4) 0) (by omega) (by omega) (kO _) (by simp) (by
  rw [GJ,Nat.sub_zero,List.drop_of_length_le (by rw [mq];exact Nat.le_refl _)];rfl)
 have:=Lr s I s.size (s.size+1) 0 (List.replicate ((s.size+3) / 4) 0) (by omega) (by omega) (by simp)
 rw [this] at G
 cases G
 exact ⟨_,rfl,J,M,O⟩
def tT (s:ByteArray) (m:Nat) (n:Int) (zs:List Int):Bool:=decide (n=s.size)&&decide (s.size≤140737488355328)&&decide (m=(s.size+3) / 4)&&decide (zs.length=m)
def CZ (T:List AV) (H:Hp):Option (Bool×Ex×List AV×Hp):=
 match al T 0,al T 3,al T 15,al T 16,H with
 | .val (.string s), .sl false 129 0 0 m, .val (.int .i64 n), .val (.int .i64 0), [.row (.ints .u32 zs) 129 .live]=>bif T.length==41 then some (tT s m n zs, .exit 0,nY s m s.size s.size,nM (o7 s s.size 0 zs)) else none
 | _,_,_,_,_=>none
theorem XZ (T:List AV) (H:Hp) (e:Ex) (M:List AV) (J:Hp) (h:CZ T H=some (true,e,M,J)):V.Ends Tryz.prog false 0 0 (.loop (lb 106 jP)) T H e M J:=by
 unfold CZ at h
 split at h
 ·rename_i s m n zs Z a1 ab aE
  rw [Bool.cond_eq_ite] at h
  split at h
  ·rename_i O
   rw [beq_iff_eq] at O
   simp only [Option.some.injEq,Prod.mk.injEq] at h
   obtain ⟨I,rfl,rfl,rfl⟩:=h
   unfold tT at I
   simp only [Bool.and_eq_true,decide_eq_true_eq] at I
   obtain ⟨⟨⟨rfl,a7⟩,bx⟩,bD⟩:=I
   refine Ends.pre (Ls s m a7 bx s.size 0 zs (by omega) bD).ends (fun α B w D b0 a6=>bw O (fun p U y G=> ?_) a6)
   simp only [List.mem_cons,List.not_mem_nil,or_false] at U
   rcases U with rfl | rfl | rfl | rfl
   ·rw [Z] at G;exact G
   ·rw [a1] at G;exact G
   ·rw [ab] at G;exact G
   ·rw [aE] at G;exact G
  ·cases h
 ·cases h
def Fe (G:ByteArray→ByteArray) (args:List AV):Option (Bool×AV):=match args with | [.val (.string s)]=>some (true, .val (.string (G s))) | _=>none
def wq (G:ByteArray→ByteArray):Env:= ⟨au 139 (Fe G) aM,fun _=>false,ma 106 jP [0,3,15,16] CZ aq⟩
theorem PX:bf Tryz.prog (wq fun s=>av (vS s)).C:=(aK _).add zf
theorem PY (G:ByteArray→ByteArray):dg Tryz.prog (wq G):=(aC.none.nt X1 XZ).ok
theorem X2 (G:ByteArray→ByteArray) (s:ByteArray):aG Tryz.prog (wq G) 10 10 106 [.val (.string s)]=
  (bif ah .i64 (((G s).size:Int)+4) then bif ah .i64 (((G s).size:Int)+4 - 1) then bif ah .i64 ((((G s).size:Int)+4 - 1).tdiv 4) then
   bif decide (0≤(((G s).size:Int)+4 - 1).tdiv 4)&&decide ((((G s).size:Int)+4 - 1).tdiv 4≤(((G s).size:Int)+4 - 1).tdiv 4)&&decide ((4:Int)*(((G s).size:Int)+4 - 1).tdiv 4≤281474976710656)&&decide ((((G s).size:Int)+4 - 1).tdiv 4≤9223372036854775807) then
   bif tT (G s) ((((G s).size:Int)+4 - 1).tdiv 4).toNat ((G s).size:Int) (List.replicate ((((G s).size:Int)+4 - 1).tdiv 4).toNat 0) then
   bif decide (0+((((G s).size:Int)+4 - 1).tdiv 4).toNat*1≤(o7 (G s) (G s).size 0 (List.replicate ((((G s).size:Int)+4 - 1).tdiv 4).toNat 0)).length) then
   some (.lst false 129 ((((G s).size:Int)+4 - 1).tdiv 4).toNat (lim (o7 (G s) (G s).size 0 (List.replicate ((((G s).size:Int)+4 - 1).tdiv 4).toNat 0))))
   else none else none else none else none else none else none):=by kernel_rfl
theorem Sx (n:Nat) {r:List Int} (J:aH r) (G:r.length=((av n).size+3) / 4) (I:vL r=n):r=toL n:=by
 rw [← I]
 apply Cl J
 intro O
 rw [I,G]
 have U:0 < (av n).size:=by
  rcases Nat.eq_zero_or_pos (av n).size with h | h
  ·rw [h] at G;exact absurd (List.length_eq_zero_iff.1 G) O
  ·exact h
 have M:256 ^ ((av n).size - 1)≤n:=by rw [kW] at U ⊢;exact Xr (by omega)
 refine Nat.le_trans ?_ M
 rw [show (4294967296:Nat)=256 ^ 4 from rfl,← Nat.pow_mul]
 exact Nat.pow_le_pow_right (by decide) (by omega)
def Lp (args:List AV):Option (Bool×AV):=match args with | [.val (.string s)]=>some (decide (s.size≤140737488355328),xH (vS s)) | _=>none
theorem Lq:Entry Tryz.prog 106 Lp:=by
 refine il (E:=wq fun s=>av (vS s)) (u:=10) (d:=10) PX (PY _) (by kernel_rfl) (fun args r h=> ?_)
 unfold Lp at h
 split at h
 ·rename_i s
  simp only [Option.some.injEq,Prod.mk.injEq,decide_eq_true_eq] at h
  obtain ⟨a1,rfl⟩:=h
  have G:=X2 (fun s=>av (vS s)) s
  have a6:(av (vS s)).size≤s.size:=abP (k9 s)
  obtain ⟨r,O,U,J,M⟩:=X0 (av (vS s)) (by omega)
  rw [jg] at M
  have Z:=Sx (vS s) U J M
  generalize av (vS s)=t at*
  have aE:((t.size:Int)+4 - 1).tdiv 4=(((t.size+3) / 4:Nat):Int):=by
   rw [show (t.size:Int)+4 - 1=((t.size+3:Nat):Int) by omega]
   rw [Int.tdiv_eq_ediv_of_nonneg (by omega)]
   rfl
  rw [aE,Int.toNat_natCast,O] at G
  have ab:tT t ((t.size+3) / 4) (t.size:Int) (List.replicate ((t.size+3) / 4) 0)=true:=by
   unfold tT
   simp only [decide_true,List.length_replicate,Bool.and_true,Bool.true_and]
   exact decide_eq_true (by omega)
  rw [ab,fu (show -9223372036854775808≤(t.size:Int)+4 by omega) (by omega),fu (show -9223372036854775808≤(t.size:Int)+4 - 1 by omega) (by omega),fu (show -9223372036854775808≤(((t.size+3) / 4:Nat):Int) by omega) (by omega),
   decide_eq_true (show (0:Int)≤(((t.size+3) / 4:Nat):Int) by omega),decide_eq_true (show (((t.size+3) / 4:Nat):Int)≤(((t.size+3) / 4:Nat):Int) by omega),decide_eq_true (show (4:Int)*(((t.size+3) / 4:Nat):Int)≤281474976710656 by omega),decide_eq_true (show (((t.size+3) / 4:Nat):Int)≤9223372036854775807 by omega),
   decide_eq_true (show 0+(t.size+3) / 4*1≤r.length by omega)] at G
  refine ⟨_,_,G,fun B w a7 I=>I,fun B w y I=> ?_⟩
  unfold xH
  rw [← Z,J]
  exact I
 ·cases h
end
end Go.Proofs.YtamcpiicmfielaaGreat.L
namespace Go.Proofs.YtamcpiicmfielaaGreat.L
open Go Go.V Go.RowKit Go.Proofs.YtamcpiicmfielaaGreat.Sp Go.Proofs.YtamcpiicmfielaaGreat.F Go.Proofs.YtamcpiicmfielaaGreatW.PrintWords
open Go.Proofs (Tryz.prog)
noncomputable section
abbrev ew:List Bool:= [false,true,false,true,true]
def lQ (zs:List Int) (m l:Nat) (i:Int):List AV:=ao 41 [(0, .lst false 129 m (lim zs)),(3, .sl false 5 0 0 l),(4, .val (.int .i64 i))]
def pK (zs:List Int) (m:Nat) (i:Int):List AV:=ao 41 [(0, .lst false 129 m (lim zs)),(3, .val (.slice none 0 0)),(4, .val (.int .i64 i))]
def lu (bs:List Int):Hp:= [.row (.ints .u8 bs) 5 .live]
def ij (z:Int):List Int:= [IntKind.u8.wrap (z.fdiv (2 ^ min (Int.toNat 24) IntKind.u32.bits)),IntKind.u8.wrap (z.fdiv (2 ^ min (Int.toNat 16) IntKind.u32.bits)),IntKind.u8.wrap (z.fdiv (2 ^ min (Int.toNat 8) IntKind.u32.bits)),IntKind.u8.wrap z]
theorem acA:aI Tryz.prog 141 ew=some (.loop (lb 141 ew)):=by kernel_rfl
theorem OJ:aI Tryz.prog 141 (false :: ew)=some (lb 141 ew):=by kernel_rfl
theorem OL (zs:List Int) (m l:Nat) (i:Int) (bs:List Int):aP Tryz.prog bg 141 [0,3,4] (lb 141 ew) (false :: ew) (lQ zs m l i) (lu bs)=
  (bif decide (0≤i) then bif decide (0≤i)&&decide (i < m) then bif decide (0≤i)&&decide (i < m) then bif decide (0≤i)&&decide (i < m) then bif decide (0≤i)&&decide (i < m) then
   bif decide (l*1≤bs.length)&&aQ Tryz.prog (l+4) 5&&true then bif ah .i64 (i - 1) then some (.normal,lQ zs m (l+4) (i - 1),lu (bs.take (l*1) ++ ij (zs.getD i.toNat 0)))
   else none else none else none else none else none else none else some (.exit 0,lQ zs m l i,lu bs)):=by kernel_rfl
theorem OM (zs:List Int) (m:Nat) (i:Int):aP Tryz.prog bg 141 [0,3,4] (lb 141 ew) (false :: ew) (pK zs m i) []=
  (bif decide (0≤i) then bif decide (0≤i)&&decide (i < m) then bif decide (0≤i)&&decide (i < m) then bif decide (0≤i)&&decide (i < m) then bif decide (0≤i)&&decide (i < m) then
   bif ah .i64 (i - 1) then some (.normal,lQ zs m 4 (i - 1),lu (ij (zs.getD i.toNat 0)))
   else none else none else none else none else none else some (.exit 0,pK zs m i, [])):=by kernel_rfl
theorem ON {zs:List Int} {m l:Nat} {i:Int} {bs:List Int} {e:Ex} {T:List AV} {H:Hp} (h:aP Tryz.prog bg 141 [0,3,4] (lb 141 ew) (false :: ew) (lQ zs m l i) (lu bs)=some (e,T,H)):V.Ends Tryz.prog false 0 0 (lb 141 ew) (lQ zs m l i) (lu bs) e T H:=
 bK (aK _) aO mixed OJ h
theorem OO {zs:List Int} {m:Nat} {i:Int} {e:Ex} {T:List AV} {H:Hp} (h:aP Tryz.prog bg 141 [0,3,4] (lb 141 ew) (false :: ew) (pK zs m i) []=some (e,T,H)):V.Ends Tryz.prog false 0 0 (lb 141 ew) (pK zs m i) [] e T H:=
 bK (aK _) aO mixed OJ h
def hZ (zs:List Int):Nat→List Int→List Int
 | 0,bs=>bs
 | d+1,bs=>hZ zs d (bs ++ ij (zs.getD d 0))
theorem OI (zs:List Int):∀ d bs,(hZ zs d bs).length=bs.length+4*d
 | 0,bs=>rfl
 | d+1,bs=>by unfold hZ;rw [OI zs d,List.length_append];simp [ij];omega
theorem aa2 (n:Nat) (h:n≤140737488355328):aQ Tryz.prog n 5=true:=by
 unfold aQ
 rw [Bool.and_eq_true,decide_eq_true_eq,decide_eq_true_eq,show Tryz.prog.bytesOf 5=1 by kernel_rfl]
 omega
theorem OK (zs:List Int) (m:Nat) (M:m≤17592186044416):∀ (d:Nat) (bs:List Int),d≤m→bs.length+4*d≤140737488355328→aA Tryz.prog (lb 141 ew) (lQ zs m bs.length ((d:Int) - 1)) (lu bs) (.exit 0) (lQ zs m (bs.length+4*d) (-1)) (lu (hZ zs d bs))
 | 0,bs,I,J=> .last (ON (by rw [OL];rfl)) (by intro h;cases h)
 | d+1,bs,I,J=>by
  have G:=OL zs m bs.length (d:Int) bs
  rw [decide_eq_true (show (0:Int)≤(d:Int) by omega),decide_eq_true (show (d:Int) < (m:Int) by omega),fu (show -9223372036854775808≤(d:Int) - 1 by omega) (by omega),decide_eq_true (show bs.length*1≤bs.length by omega),aa2 _ (by omega),Nat.mul_one,List.take_length,Int.toNat_natCast] at G
  rw [show (((d+1:Nat):Int) - 1)=(d:Int) by omega]
  have:=OK zs m M d (bs ++ ij (zs.getD d 0)) (by omega) (by rw [List.length_append];simp [ij];omega)
  rw [List.length_append,show (ij (zs.getD d 0)).length=4 from rfl,show bs.length+4+4*d=bs.length+4*(d+1) by omega] at this
  exact .more (ON G) this
def nZ (w:Bool) (m:Nat) (f:Nat→Nat→AV) (i:Int):Bool:=okB m f&&decide (i=(m:Int) - 1)&&decide (m≤17592186044416)&&(decide (m=0)==w)
def E9 (w:Bool) (T:List AV) (H:Hp):Option (Bool×Ex×List AV×Hp):=
 match al T 0,al T 3,al T 4,H with
 | .lst false 129 m f, .val (.slice none 0 0), .val (.int .i64 i), []=>bif T.length==41 then some (nZ w m f i, .exit 0,bif w then pK (rowOf m f) m (-1) else lQ (rowOf m f) m (4*m) (-1),bif w then [] else lu (hZ (rowOf m f) m [])) else none
 | _,_,_,_=>none
theorem acz (w:Bool) (T:List AV) (H:Hp) (e:Ex) (O:List AV) (M:Hp) (h:E9 w T H=some (true,e,O,M)):V.Ends Tryz.prog false 0 0 (.loop (lb 141 ew)) T H e O M:=by
 unfold E9 at h
 split at h
 ·rename_i m f i a1 a6 a7
  rw [Bool.cond_eq_ite] at h
  split at h
  ·rename_i U
   rw [beq_iff_eq] at U
   simp only [Option.some.injEq,Prod.mk.injEq] at h
   obtain ⟨J,rfl,rfl,rfl⟩:=h
   unfold nZ at J
   simp only [Bool.and_eq_true,decide_eq_true_eq] at J
   obtain ⟨⟨⟨k1,rfl⟩,bD⟩,aE⟩:=J
   have bx:V.Ends Tryz.prog false 0 0 (.loop (lb 141 ew)) (pK (rowOf m f) m ((m:Int) - 1)) [] (.exit 0) (bif w then pK (rowOf m f) m (-1) else lQ (rowOf m f) m (4*m) (-1)) (bif w then [] else lu (hZ (rowOf m f) m [])):=by
    generalize rowOf m f=zs
    cases w with
    | true=>
     have Z:m=0:=by simpa using aE
     subst Z
     exact (aA.last (OO (by rw [OM];rfl)) (by intro h;cases h)).ends
    | false=>
     have Z:m≠0:=by simpa using aE
     obtain ⟨d,rfl⟩:∃ d,m=d+1:= ⟨m - 1,by omega⟩
     have I:=OM zs (d+1) (d:Int)
     rw [decide_eq_true (show (0:Int)≤(d:Int) by omega),decide_eq_true (show (d:Int) < ((d+1:Nat):Int) by omega),fu (show -9223372036854775808≤(d:Int) - 1 by omega) (by omega),Int.toNat_natCast] at I
     rw [show (((d+1:Nat):Int) - 1)=(d:Int) by omega]
     have:=OK zs (d+1) bD d (ij (zs.getD d 0)) (by omega) (by simp [ij];omega)
     rw [show (ij (zs.getD d 0)).length=4 from rfl,show 4+4*d=4*(d+1) by omega] at this
     exact (aA.more (OO I) this).ends
   refine Ends.pre bx (fun α B w D b0 I=>bw U (fun p ab y G=> ?_) I)
   simp only [List.mem_cons,List.not_mem_nil,or_false] at ab
   rcases ab with rfl | rfl | rfl
   ·rw [a1] at G;exact cB cr k1 G
   ·rw [a6] at G;exact G
   ·rw [a7] at G;exact G
  ·cases h
 ·cases h
def sA (w:Bool) (G:ByteArray→ByteArray):Env:= ⟨au 139 (Fe G) aM,fun _=>false,ma 141 ew [0,3,4] (E9 w) aq⟩
theorem P0 (w:Bool):bf Tryz.prog (sA w fun s=>av (vS s)).C:=(aK _).add zf
theorem P1 (w:Bool) (G:ByteArray→ByteArray):dg Tryz.prog (sA w G):=(aC.none.nt acA (acz w)).ok
theorem acB (G:ByteArray→ByteArray) (zs:List Int) (m:Nat):aG Tryz.prog (sA true G) 10 10 141 [.lst false 129 m (lim zs)]=
  (bif ah .i64 ((m:Int) - 1) then bif nZ true m (lim zs) ((m:Int) - 1) then some (.val (.string (G (ofBytes [])))) else none else none):=by kernel_rfl
theorem acC (G:ByteArray→ByteArray) (zs:List Int) (m:Nat):aG Tryz.prog (sA false G) 10 10 141 [.lst false 129 m (lim zs)]=
  (bif ah .i64 ((m:Int) - 1) then bif nZ false m (lim zs) ((m:Int) - 1) then bif decide (0+4*m*1≤(hZ (rowOf m (lim zs)) m []).length) then some (.val (.string (G (ofBytes ((hZ (rowOf m (lim zs)) m []).take (4*m*1)))))) else none else none else none):=by kernel_rfl
theorem sd (z:Int):IntKind.u8.wrap z=z % 256:=by
 unfold IntKind.wrap
 simp [IntKind.bits,IntKind.signed]
theorem Sj {z:Int} (I:0≤z) (Z:z < 4294967296):vB ((ij z).map fun z=>UInt8.ofNat z.toNat)=z.toNat:=by
 obtain ⟨n,rfl⟩:=Int.eq_ofNat_of_zero_le I
 have G:∀ k:Nat,(UInt8.ofNat (IntKind.u8.wrap (((n:Int)).fdiv ((k:Nat):Int))).toNat).toNat=n / k % 256:=by
  intro k
  rw [sd,Int.fdiv_eq_ediv_of_nonneg _ (by omega),← Int.natCast_ediv,UInt8.toNat_ofNat']
  omega
 have U:=G 16777216
 have O:=G 65536
 have M:=G 256
 have J:(UInt8.ofNat (IntKind.u8.wrap (n:Int)).toNat).toNat=n % 256:=by
  rw [sd,UInt8.toNat_ofNat']
  omega
 have e:(ij (n:Int))= [IntKind.u8.wrap ((n:Int).fdiv ((16777216:Nat):Int)),IntKind.u8.wrap ((n:Int).fdiv ((65536:Nat):Int)),IntKind.u8.wrap ((n:Int).fdiv ((256:Nat):Int)),IntKind.u8.wrap (n:Int)]:=rfl
 rw [e]
 simp only [List.map_cons,List.map_nil,kZ,zS,List.length_cons,List.length_nil,U,O,M,J,Int.toNat_natCast]
 omega
theorem OP {zs:List Int} (J:aH zs):∀ (d:Nat) (bs:List Int),d≤zs.length→vB ((hZ zs d bs).map fun z=>UInt8.ofNat z.toNat)=vB (bs.map fun z=>UInt8.ofNat z.toNat)*4294967296 ^ d+vL (zs.take d)
 | 0,bs,_=>by simp [hZ,cC]
 | d+1,bs,M=>by
  have G:d < zs.length:=M
  have O:zs.getD d 0=zs[d]:=by rw [List.getD_eq_getElem?_getD,List.getElem?_eq_getElem G];rfl
  have U:zs.take (d+1)=zs.take d ++ [zs[d]]:=by rw [List.take_add_one,List.getElem?_eq_getElem G];rfl
  have I:=J _ (List.getElem_mem G)
  unfold hZ
  rw [OP J d _ (by omega),List.map_append,GH,O,Sj I.1 I.2,List.length_map,show (ij zs[d]).length=4 from rfl,U,lX,List.length_take,Nat.min_eq_left (by omega),b8,cC,show (256:Nat) ^ 4=4294967296 from rfl,Nat.pow_succ]
  simp only [Nat.mul_zero,Nat.add_zero,Nat.add_mul,Nat.mul_assoc,Nat.mul_comm (4294967296 ^ d)]
  rw [Nat.mul_comm 4294967296 (4294967296 ^ d)]
  omega
def OH (args:List AV):Option (Bool×AV):=match args with | [.lst _ 129 m f]=>some (okB m f&&decide (m≤17592186044416), .val (.string (av (vL (rowOf m f))))) | _=>none
theorem ad9 (l:List Int):vS (ofBytes l)=vB (l.map fun z=>UInt8.ofNat z.toNat):=rfl
theorem acD:Entry Tryz.prog 141 OH:=by
 intro args r h
 unfold OH at h
 split at h
 ·rename_i fl m f
  simp only [Option.some.injEq,Prod.mk.injEq,Bool.and_eq_true,decide_eq_true_eq] at h
  obtain ⟨⟨O,M⟩,rfl⟩:=h
  have b3:=cz m f
  have U:=(e9 m f).1 O
  have ab:rowOf m (lim (rowOf m f))=rowOf m f:=by rw [pG _ (by omega),List.take_of_length_le (by omega)]
  have Z:okB m (lim (rowOf m f))=true:=by rw [e9,ab];exact U
  have b0:∃ w,aG Tryz.prog (sA w fun s=>av (vS s)) 10 10 141 [.lst false 129 m (lim (rowOf m f))]=some (.val (.string (av (vL (rowOf m f))))):=by
   by_cases J:m=0
   ·refine ⟨true, ?_⟩
    have G:=acB (fun s=>av (vS s)) (rowOf m f) m
    have I:nZ true m (lim (rowOf m f)) ((m:Int) - 1)=true:=by
     unfold nZ
     rw [Z,decide_eq_true M,decide_eq_true J]
     simp
    rw [I,fu (by omega) (by omega)] at G
    rw [G]
    have:rowOf m f= []:=List.length_eq_zero_iff.1 (by omega)
    rw [this]
    rfl
   ·refine ⟨false, ?_⟩
    have G:=acC (fun s=>av (vS s)) (rowOf m f) m
    have I:nZ false m (lim (rowOf m f)) ((m:Int) - 1)=true:=by
     unfold nZ
     rw [Z,decide_eq_true M,decide_eq_false J]
     simp
    have a6:=OI (rowOf m f) m []
    rw [List.length_nil,Nat.zero_add] at a6
    rw [I,ab,fu (by omega) (by omega),decide_eq_true (show 0+4*m*1≤(hZ (rowOf m f) m []).length by omega),List.take_of_length_le (show (hZ (rowOf m f) m []).length≤4*m*1 by omega)] at G
    rw [G]
    have aE:=OP U m [] (by omega)
    rw [List.take_of_length_le (by omega),List.map_nil,zS,Nat.zero_mul,Nat.zero_add] at aE
    show some (AV.val (.string (av (vS (ofBytes (hZ (rowOf m f) m []))))))=_
    rw [ad9,aE]
  obtain ⟨w,a7⟩:=b0
  intro B b1 b2 a1 bx
  refine qy (P0 w) (P1 w _) mixed (by kernel_rfl) a7 B b1 b2 a1 ?_
  obtain ⟨y,zs,bD,q1,q2⟩:=bx
  rw [bD]
  exact ⟨y,zs,rfl,tV (cB cr O q1),q2⟩
 ·cases h
end
end Go.Proofs.YtamcpiicmfielaaGreat.L
namespace Go.Proofs.YtamcpiicmfielaaGreat.L
open Go Go.V Go.RowKit Go.Proofs.YtamcpiicmfielaaGreat.Sp Go.Proofs.YtamcpiicmfielaaGreat.F Go.Proofs.YtamcpiicmfielaaGreatW.PrintWords
open Go.Proofs (Tryz.prog)
noncomputable section
abbrev wE:=Nat→(Nat→Nat→AV)→Nat→Nat→AV
def abh (c:Nat→(Nat→Nat→AV)→Bool) (G:Nat→(Nat→Nat→AV)→Nat) (I:wE) (args:List AV):Option (Bool×AV):=match args with | [.lst fl 129 m f]=>some (c m f, .lst false 129 (G m f) (I m f)) | _=>none
def acF (c:Nat→(Nat→Nat→AV)→Bool) (G:Nat→(Nat→Nat→AV)→ByteArray) (args:List AV):Option (Bool×AV):=match args with | [.lst _ 129 m f]=>some (c m f, .val (.string (G m f))) | _=>none
def vX (m:Nat) (f:Nat→Nat→AV):Bool:=okB m f&&decide (m≤140737488355328)
def pY (m:Nat) (f:Nat→Nat→AV):Nat:=(toL (vL (rowOf m f))).length
def pZ:wE:=fun m f=>lim (toL (vL (rowOf m f)))
def vI (m:Nat) (f:Nat→Nat→AV):Bool:=okB m f&&decide (m≤17592186044416)
def vJ (m:Nat) (f:Nat→Nat→AV):ByteArray:=av (vL (rowOf m f))
def Ao (c1:Nat→(Nat→Nat→AV)→Bool) (G:Nat→(Nat→Nat→AV)→Nat) (J:wE) (c2:Nat→(Nat→Nat→AV)→Bool) (I:Nat→(Nat→Nat→AV)→ByteArray):Env:= ⟨au 140 (abh c1 G J) (au 141 (acF c2 I) aM),fun _=>false,aq⟩
theorem PZ:bf Tryz.prog (Ao vX pY pZ vI vJ).C:=((aK _).add acD).add Pd
theorem ZI (c1:Nat→(Nat→Nat→AV)→Bool) (G:Nat→(Nat→Nat→AV)→Nat) (I:wE) (c2:Nat→(Nat→Nat→AV)→Bool) (J:Nat→(Nat→Nat→AV)→ByteArray) (b:Bool) (fl:Bool) (m:Nat) (f:Nat→Nat→AV):aG Tryz.prog (Ao c1 G I c2 J) 10 10 108 [.val (.bool b), .lst fl 129 m f]=
  (bif c1 m f then bif c2 (G m f) (I m f) then bif b then some (.agg [.val (.bool (!aF (J (G m f) (I m f)) ⟨#[]⟩)), .val (.string (J (G m f) (I m f)))]) else some (.agg [.val (.bool false), .val (.string (J (G m f) (I m f)))]) else none else none):=by kernel_rfl
theorem qZ (n:Nat):aF (av n) ⟨#[]⟩=decide (n=0):=by
 rw [OQ]
 by_cases h:n=0
 ·subst h
  rw [decide_eq_true ((toList_nil _).2 (by rw [o8];exact toB_zero))]
  rfl
 ·rw [decide_eq_false h,decide_eq_false]
  intro e
  rw [toList_nil] at e
  have:=jg n
  unfold vS at this
  rw [e,zS] at this
  exact h this.symm
def nI (z:Int):AV:= .agg [.val (.bool (enc z).1), .val (.string (enc z).2)]
def Mh (args:List AV):Option (Bool×AV):=match args with | [.val (.bool b), .lst _ 129 m f]=>some (okB m f&&decide (m≤17592186044416),nI (if b=true then -(vL (rowOf m f):Int) else (vL (rowOf m f):Int))) | _=>none
theorem Mj:Entry Tryz.prog 108 Mh:=by
 refine il (E:=Ao vX pY pZ vI vJ) (u:=10) (d:=10) PZ aO (by kernel_rfl) (fun args r h=> ?_)
 unfold Mh at h
 split at h
 ·rename_i b fl m f
  simp only [Option.some.injEq,Prod.mk.injEq,Bool.and_eq_true,decide_eq_true_eq] at h
  obtain ⟨⟨J,a1⟩,rfl⟩:=h
  have I:=ZI vX pY pZ vI vJ b fl m f
  have U:=(e9 m f).1 J
  have aE:(toL (vL (rowOf m f))).length≤m:=by
   have:=kK (dQ U)
   rwa [cz] at this
  have k1:vX m f=true:=by unfold vX;rw [J,decide_eq_true (show m≤140737488355328 by omega)];rfl
  have Z:vI (pY m f) (pZ m f)=true:=by unfold vI pY pZ;rw [jM,decide_eq_true (show (toL (vL (rowOf m f))).length≤17592186044416 by omega)];rfl
  have ab:vJ (pY m f) (pZ m f)=av (vL (rowOf m f)):=by unfold vJ pY pZ;rw [lO,cX]
  rw [k1,Z,ab,qZ] at I
  generalize vL (rowOf m f)=n at*
  have O:=V9 b n
  refine ⟨_,nI (if b=true then -(n:Int) else (n:Int)), ?_,fun B w a6 G=>G,fun B w y G=>G⟩
  rw [I]
  unfold nI
  rw [← O]
  cases b with
  | true=>
   simp only [cond,Bool.true_and]
   by_cases M:n=0 <;> simp [M]
  | false=>rfl
 ·cases h
end
end Go.Proofs.YtamcpiicmfielaaGreat.L
namespace Go.Proofs.YtamcpiicmfielaaGreat.L
open Go Go.V Go.RowKit Go.Proofs.YtamcpiicmfielaaGreat.Sp Go.Proofs.YtamcpiicmfielaaGreat.F Go.Proofs.YtamcpiicmfielaaGreatW.PrintWords
open Go.Proofs (Tryz.prog)
noncomputable section
structure Sy where
 jk:ByteArray→Bool
 n47:ByteArray→Nat
 f47:ByteArray→Nat→Nat→AV
 oH:Bool→Nat→(Nat→Nat→AV)→Bool
 oD:Bool→Nat→(Nat→Nat→AV)→Bool
 pI:Bool→Nat→(Nat→Nat→AV)→ByteArray
 lk:Nat→(Nat→Nat→AV)→Nat→(Nat→Nat→AV)→Bool
 lv:Nat→(Nat→Nat→AV)→Nat→(Nat→Nat→AV)→Int
 NY:ByteArray→ByteArray
def XY (S:Sy) (args:List AV):Option (Bool×AV):=match args with | [.val (.string s)]=>some (S.jk s, .lst false 129 (S.n47 s) (S.f47 s)) | _=>none
def ZG (S:Sy) (args:List AV):Option (Bool×AV):=match args with | [.val (.bool b), .lst _ 129 m f]=>some (S.oH b m f, .agg [.val (.bool (S.oD b m f)), .val (.string (S.pI b m f))]) | _=>none
def TR (S:Sy) (args:List AV):Option (Bool×AV):=match args with | [.lst _ 129 m f, .lst _ 129 n g]=>some (S.lk m f n g, .val (.int .i64 (S.lv m f n g))) | _=>none
def sy:Sy where
 jk s:=decide (s.size≤140737488355328)
 n47 s:=(toL (vS s)).length
 f47 s:=lim (toL (vS s))
 oH _ m f:=okB m f&&decide (m≤17592186044416)
 oD b m f:=(enc (if b=true then -(vL (rowOf m f):Int) else (vL (rowOf m f):Int))).1
 pI b m f:=(enc (if b=true then -(vL (rowOf m f):Int) else (vL (rowOf m f):Int))).2
 lk m f n g:=dW m f&&dW n g&&decide (m≤140737488355328)&&decide (n≤140737488355328)
 lv m f n g:=cu (vL (rowOf m f)) (vL (rowOf n g))
 NY s:=av (vS s)
def CS (S:Sy):FuncId→List AV→Option (Bool×AV):=au 106 (XY S) (au 108 (ZG S) (au 107 (TR S) (au 139 (Fe S.NY) aM)))
theorem Ah:bf Tryz.prog (CS sy):=((((aK _).add zf).add JF).add Mj).add Lq
def KS (g:FuncId):Bool:=g==108 ||g==107 ||g==140 ||g==141
def ES (S:Sy):Env:= ⟨CS S,KS,aq⟩
theorem CV (s:ByteArray):(toL (vS s)).length≤s.size:=by
 refine kK (Nat.lt_of_lt_of_le (k9 s) ?_)
 exact Nat.pow_le_pow_left (by decide) _
theorem ni (s:ByteArray) (h:s.size≤17592186044416):sy.jk s=true:=decide_eq_true (by omega)
theorem acV (b:Bool) (n:Nat) (h:(toL n).length≤17592186044416):sy.oH b (toL n).length (lim (toL n))=true:=by
 show (okB (toL n).length (lim (toL n))&&decide ((toL n).length≤17592186044416))=true
 rw [jM,decide_eq_true h]
 rfl
theorem acU (b:Bool) (n:Nat):AV.agg [.val (.bool (sy.oD b (toL n).length (lim (toL n)))), .val (.string (sy.pI b (toL n).length (lim (toL n))))]=nI (if b=true then -(n:Int) else (n:Int)):=by
 show AV.agg [.val (.bool (enc (if b=true then -(vL (rowOf (toL n).length (lim (toL n))):Int) else (vL (rowOf (toL n).length (lim (toL n))):Int))).1), .val (.string (enc (if b=true then -(vL (rowOf (toL n).length (lim (toL n))):Int) else (vL (rowOf (toL n).length (lim (toL n))):Int))).2)]=_
 rw [lO,cX]
 rfl
theorem Zd (S:Sy) (b:Bool) (s:ByteArray):aG Tryz.prog (ES S) 10 10 121 [.agg [.val (.bool b), .val (.string s)]]=
  (bif S.jk s then bif S.oH (!b) (S.n47 s) (S.f47 s) then some (.agg [.val (.bool (S.oD (!b) (S.n47 s) (S.f47 s))), .val (.string (S.pI (!b) (S.n47 s) (S.f47 s)))]) else none else none):=by kernel_rfl
def LK (args:List AV):Option (Bool×AV):=match args with | [.agg [.val (.bool b), .val (.string s)]]=>some (decide (s.size≤17592186044416),nI (-(val b s))) | _=>none
theorem Ze:Entry Tryz.prog 121 LK:=by
 refine il (E:=ES sy) (u:=10) (d:=10) Ah aO (by kernel_rfl) (fun args r h=> ?_)
 unfold LK at h
 split at h
 ·rename_i b s
  simp only [Option.some.injEq,Prod.mk.injEq,decide_eq_true_eq] at h
  obtain ⟨O,rfl⟩:=h
  have I:=Zd sy b s
  have M:sy.n47 s=(toL (vS s)).length:=rfl
  have J:sy.f47 s=lim (toL (vS s)):=rfl
  have U:=CV s
  rw [ni s O,M,J,acV _ _ (by omega),acU] at I
  refine ⟨_,_,I,fun B w Z G=>G,fun B w y G=> ?_⟩
  have e:(if (!b)=true then -(vS s:Int) else (vS s:Int))= -(val b s):=by
   unfold val
   cases b <;> simp
  rw [e] at G
  exact G
 ·cases h
theorem SY (S:Sy) (s t:ByteArray):aG Tryz.prog (ES S) 10 10 64 [.agg [.val (.bool true), .val (.string s)], .agg [.val (.bool true), .val (.string t)]]=(bif S.jk s then bif S.jk t then bif decide ((0:Int) < (S.n47 s:Int)) then bif decide ((0:Int) < (S.n47 t:Int)) then bif S.lk (S.n47 t) (S.f47 t) (S.n47 s) (S.f47 s) then some (.val (.int .i64 (S.lv (S.n47 t) (S.f47 t) (S.n47 s) (S.f47 s)))) else none else bif decide ((0:Int) < (S.n47 s:Int)) then some (.val (.int .i64 (-1))) else bif decide ((0:Int) < (S.n47 t:Int)) then some (.val (.int .i64 1)) else bif S.lk (S.n47 s) (S.f47 s) (S.n47 t) (S.f47 t) then some (.val (.int .i64 (S.lv (S.n47 s) (S.f47 s) (S.n47 t) (S.f47 t)))) else none else bif decide ((0:Int) < (S.n47 s:Int)) then some (.val (.int .i64 (-1))) else bif decide ((0:Int) < (S.n47 t:Int)) then some (.val (.int .i64 1)) else bif S.lk (S.n47 s) (S.f47 s) (S.n47 t) (S.f47 t) then some (.val (.int .i64 (S.lv (S.n47 s) (S.f47 s) (S.n47 t) (S.f47 t)))) else none else none else none):=by kernel_rfl
theorem SX (S:Sy) (s t:ByteArray):aG Tryz.prog (ES S) 10 10 64 [.agg [.val (.bool true), .val (.string s)], .agg [.val (.bool false), .val (.string t)]]=(bif S.jk s then bif S.jk t then bif decide ((0:Int) < (S.n47 s:Int)) then bif decide ((0:Int) < (S.n47 s:Int)) then some (.val (.int .i64 (-1))) else bif S.lk (S.n47 s) (S.f47 s) (S.n47 t) (S.f47 t) then some (.val (.int .i64 (S.lv (S.n47 s) (S.f47 s) (S.n47 t) (S.f47 t)))) else none else bif decide ((0:Int) < (S.n47 s:Int)) then some (.val (.int .i64 (-1))) else bif S.lk (S.n47 s) (S.f47 s) (S.n47 t) (S.f47 t) then some (.val (.int .i64 (S.lv (S.n47 s) (S.f47 s) (S.n47 t) (S.f47 t)))) else none else none else none):=by kernel_rfl
theorem SV (S:Sy) (s t:ByteArray):aG Tryz.prog (ES S) 10 10 64 [.agg [.val (.bool false), .val (.string s)], .agg [.val (.bool true), .val (.string t)]]=(bif S.jk s then bif S.jk t then bif decide ((0:Int) < (S.n47 t:Int)) then some (.val (.int .i64 1)) else bif S.lk (S.n47 s) (S.f47 s) (S.n47 t) (S.f47 t) then some (.val (.int .i64 (S.lv (S.n47 s) (S.f47 s) (S.n47 t) (S.f47 t)))) else none else none else none):=by kernel_rfl
theorem SU (S:Sy) (s t:ByteArray):aG Tryz.prog (ES S) 10 10 64 [.agg [.val (.bool false), .val (.string s)], .agg [.val (.bool false), .val (.string t)]]=(bif S.jk s then bif S.jk t then bif S.lk (S.n47 s) (S.f47 s) (S.n47 t) (S.f47 t) then some (.val (.int .i64 (S.lv (S.n47 s) (S.f47 s) (S.n47 t) (S.f47 t)))) else none else none else none):=by kernel_rfl
theorem yc (n:Nat):decide ((0:Int) < ((toL n).length:Int))=decide (n≠0):=by
 by_cases h:n=0
 ·subst h
  rw [toL_zero]
  rfl
 ·rw [decide_eq_true h,decide_eq_true]
  rcases Nat.eq_zero_or_pos (toL n).length with G | G
  ·have I:=cX n
   rw [List.length_eq_zero_iff.1 G,cC] at I
   exact absurd I.symm h
  ·omega
theorem OX (a b:Nat) (ha:(toL a).length≤140737488355328) (hb:(toL b).length≤140737488355328):sy.lk (toL a).length (lim (toL a)) (toL b).length (lim (toL b))=true∧sy.lv (toL a).length (lim (toL a)) (toL b).length (lim (toL b))=cu a b:=by
 constructor
 ·show (dW _ _&&dW _ _&&decide _&&decide _)=true
  rw [wX,wX,decide_eq_true ha,decide_eq_true hb]
  rfl
 ·show cu (vL (rowOf _ _)) (vL (rowOf _ _))=_
  rw [lO,lO,cX,cX]
def Jv (args:List AV):Option (Bool×AV):=match args with | [.agg [.val (.bool b), .val (.string s)], .agg [.val (.bool c), .val (.string t)]]=>some (decide (s.size≤17592186044416)&&decide (t.size≤17592186044416), .val (.int .i64 (cQ (val b s) (val c t)))) | _=>none
theorem SR:Entry Tryz.prog 64 Jv:=by
 refine il (E:=ES sy) (u:=10) (d:=10) Ah aO (by kernel_rfl) (fun args r h=> ?_)
 unfold Jv at h
 split at h
 ·rename_i b s c t
  simp only [Option.some.injEq,Prod.mk.injEq,Bool.and_eq_true,decide_eq_true_eq] at h
  obtain ⟨⟨U,Z⟩,rfl⟩:=h
  have a7:=CV s
  have bx:=CV t
  obtain ⟨q1,q2⟩:=OX (vS s) (vS t) (by omega) (by omega)
  obtain ⟨a1,a6⟩:=OX (vS t) (vS s) (by omega) (by omega)
  have e1:sy.n47 s=(toL (vS s)).length:=rfl
  have J:sy.f47 s=lim (toL (vS s)):=rfl
  have M:sy.n47 t=(toL (vS t)).length:=rfl
  have O:sy.f47 t=lim (toL (vS t)):=rfl
  have aE:aG Tryz.prog (ES sy) 10 10 64 [.agg [.val (.bool b), .val (.string s)], .agg [.val (.bool c), .val (.string t)]]=some (.val (.int .i64 (cQ (val b s) (val c t)))):=by
   cases b <;> cases c
   ·rw [SU,ni s U,ni t Z,e1,J,M,O,q1,q2]
    simp only [cond,val,cu,cQ]
    simp
   ·rw [SV,ni s U,ni t Z,e1,J,M,O,q1,q2,yc]
    simp only [cond,val,cu,cQ]
    by_cases G:vS t=0
    ·simp [G]
     try (intro h;omega)
    ·rw [decide_eq_true G]
     simp only [if_true,Bool.false_eq_true,if_false]
     rw [if_neg (by omega),if_pos (by omega)]
   ·rw [SX,ni s U,ni t Z,e1,J,M,O,q1,q2,yc]
    simp only [val,cu,cQ]
    by_cases G:vS s=0
    ·simp [G]
     try (split <;> first | rfl | rw [if_neg (by omega)])
    ·rw [decide_eq_true G]
     simp only [cond,if_true,Bool.false_eq_true,if_false]
     rw [if_pos (by omega)]
   ·rw [SY,ni s U,ni t Z,e1,J,M,O,q1,q2,a1,a6,yc,yc]
    simp only [val,cu,cQ]
    by_cases G:vS s=0
    ·by_cases I:vS t=0
     ·simp [G,I]
     ·simp [G,I]
      try omega
    ·by_cases I:vS t=0
     ·simp [G,I]
      try omega
     ·simp [G,I]
  exact ⟨_,_,aE,fun B w bD ab=>ab,fun B w y ab=>ab⟩
 ·cases h
theorem r4 (s t:ByteArray):aF s t=decide (s=t):=by
 unfold aF
 by_cases h:s=t
 ·rw [decide_eq_true h,h]
  simp
 ·rw [decide_eq_false h,← Bool.not_eq_true,beq_iff_eq]
  exact fun e=>h (nA e)
def BQ (b:Bool) (s:ByteArray):Int:=if av (vS s)=s then (if b=true∧s.toList= [] then 1 else 0) else 1
end
end Go.Proofs.YtamcpiicmfielaaGreat.L
namespace Go.Proofs.YtamcpiicmfielaaGreat.L
open Go Go.V Go.RowKit Go.Proofs.YtamcpiicmfielaaGreat.Sp Go.Proofs.YtamcpiicmfielaaGreat.F Go.Proofs.YtamcpiicmfielaaGreatW.PrintWords
open Go.Proofs (Tryz.prog)
noncomputable section
def two (w:Int):List Int:= [IntKind.u32.wrap w,IntKind.u32.wrap (w.fdiv (2 ^ min (Int.toNat 32) IntKind.u64.bits))]
theorem Zq (S : Sy) (z : Int) : aG Tryz.prog (ES S) 10 10 69 [.val (.int .i64 z)] =
    (bif decide (z < 0) then bif S.oH (decide (z < 0)) 2 (lim (two (IntKind.u64.wrap (0 - IntKind.u64.wrap z)))) then some (.agg [.val (.bool (S.oD (decide (z < 0)) 2 (lim (two (IntKind.u64.wrap (0 - IntKind.u64.wrap z)))))), .val (.string (S.pI (decide (z < 0)) 2 (lim (two (IntKind.u64.wrap (0 - IntKind.u64.wrap z))))))]) else none
     else bif S.oH (decide (z < 0)) 2 (lim (two (IntKind.u64.wrap z))) then some (.agg [.val (.bool (S.oD (decide (z < 0)) 2 (lim (two (IntKind.u64.wrap z))))), .val (.string (S.pI (decide (z < 0)) 2 (lim (two (IntKind.u64.wrap z)))))]) else none) := by kernel_rfl
theorem adY {n:Nat} (h:n < 18446744073709551616):aH (two n)∧vL (two n)=n:=by
 have e1:IntKind.u32.wrap (n:Int)=((n % 4294967296:Nat):Int):=by rw [IntKind.wrap_u32];omega
 have I:IntKind.u32.wrap ((n:Int).fdiv (2 ^ min (Int.toNat 32) IntKind.u64.bits))=((n / 4294967296:Nat):Int):=by
  rw [show ((2:Int) ^ min (Int.toNat 32) IntKind.u64.bits)=((4294967296:Nat):Int) from rfl,Int.fdiv_eq_ediv_of_nonneg _ (by omega),← Int.natCast_ediv,IntKind.wrap_u32]
  omega
 unfold two
 rw [e1,I]
 refine ⟨fun x G=> ?_, ?_⟩
 ·simp only [List.mem_cons,List.not_mem_nil,or_false] at G
  rcases G with rfl | rfl <;> omega
 ·simp only [b8,cC,Int.toNat_natCast]
  omega
def LU (args:List AV):Option (Bool×AV):=match args with | [.val (.int .i64 z)]=>some (decide (-9223372036854775808≤z)&&decide (z≤9223372036854775807),nI z) | _=>none
theorem OY (b:Bool) (n:Nat) (h:n < 18446744073709551616):sy.oH b 2 (lim (two n))=true∧AV.agg [.val (.bool (sy.oD b 2 (lim (two n)))), .val (.string (sy.pI b 2 (lim (two n))))]=nI (if b=true then -(n:Int) else (n:Int)):=by
 obtain ⟨I,J⟩:=adY h
 have G:rowOf 2 (lim (two n))=two n:=pG (two n) (Nat.le_refl 2)
 constructor
 ·show (okB 2 (lim (two n))&&decide (2≤17592186044416))=true
  rw [(e9 _ _).2 (by rw [G];exact I),decide_eq_true (by omega)]
  rfl
 ·show AV.agg [.val (.bool (enc (if b=true then -(vL (rowOf 2 (lim (two n))):Int) else (vL (rowOf 2 (lim (two n))):Int))).1), .val (.string (enc (if b=true then -(vL (rowOf 2 (lim (two n))):Int) else (vL (rowOf 2 (lim (two n))):Int))).2)]=_
  rw [G,J]
  rfl
theorem Zr:Entry Tryz.prog 69 LU:=by
 refine il (E:=ES sy) (u:=10) (d:=10) Ah aO (by kernel_rfl) (fun args r h=> ?_)
 unfold LU at h
 split at h
 ·rename_i z
  simp only [Option.some.injEq,Prod.mk.injEq,Bool.and_eq_true,decide_eq_true_eq] at h
  obtain ⟨⟨O,U⟩,rfl⟩:=h
  have J:=Zq sy z
  have M:aG Tryz.prog (ES sy) 10 10 69 [.val (.int .i64 z)]=some (nI z):=by
   rw [J]
   by_cases I:z < 0
   ·have e:IntKind.u64.wrap (0 - IntKind.u64.wrap z)=((z.natAbs:Nat):Int):=by rw [IntKind.wrap_u64,IntKind.wrap_u64];omega
    obtain ⟨q1,q2⟩:=OY true z.natAbs (by omega)
    rw [decide_eq_true I,e,q1,q2,if_pos rfl,show -((z.natAbs:Nat):Int)=z by omega]
    rfl
   ·have e:IntKind.u64.wrap z=((z.natAbs:Nat):Int):=by rw [IntKind.wrap_u64];omega
    obtain ⟨q1,q2⟩:=OY false z.natAbs (by omega)
    rw [decide_eq_false I,e,q1,q2,if_neg (by decide),show ((z.natAbs:Nat):Int)=z by omega]
    rfl
  exact ⟨_,_,M,fun B w Z G=>G,fun B w y G=>G⟩
 ·cases h
end
end Go.Proofs.YtamcpiicmfielaaGreat.L
namespace Go.Proofs.YtamcpiicmfielaaGreat.L
open Go Go.V Go.RowKit Go.Proofs.YtamcpiicmfielaaGreat.Sp Go.Proofs.YtamcpiicmfielaaGreat.F Go.Proofs.YtamcpiicmfielaaGreatW.PrintWords
open Go.Proofs (Tryz.prog)
noncomputable section
structure Sg where
 len:Nat→Nat
 row:Nat→Nat→Nat→AV
 num:Nat→(Nat→Nat→AV)→Nat
 bR:Nat→(Nat→Nat→AV)→Bool
 br:Nat→(Nat→Nat→AV)→Bool
 can:Nat→(Nat→Nat→AV)→Bool
 vs:ByteArray→Nat
 mg:Nat→ByteArray
 ok:ByteArray→Bool
 sg:Bool→Nat→Int
 val:Bool→ByteArray→Int
 ng:Int→Bool
 ms:Int→ByteArray
 cmp:Nat→Nat→Int
 fK:Int→Int→Int
 BQ:Bool→ByteArray→Int
 bl:Nat→Nat
def Sg.fP (S:Sg) (n:Nat):AV:= .lst false 129 (S.len n) (S.row n)
def Sg.int (S:Sg) (z:Int):AV:= .agg [.val (.bool (S.ng z)), .val (.string (S.ms z))]
def aa:Sg where
 len n:=(toL n).length
 row n:=lim (toL n)
 num m f:=vL (rowOf m f)
 bR m f:=okB m f&&decide (m≤17592186044416)
 br m f:=okB m f&&decide (m≤8796093022208)
 can m f:=dW m f&&decide (m≤17592186044416)
 vs s:=vS s
 mg n:=av n
 ok s:=decide (s.size≤8796093022208)
 sg b n:=if b=true then -(n:Int) else (n:Int)
 val b s:=Sp.val b s
 ng z:=(enc z).1
 ms z:=(enc z).2
 cmp a b:=cu a b
 fK a b:=cQ a b
 BQ b s:=L.BQ b s
 bl n:=aU n
theorem my (n:Nat):aa.num (aa.len n) (aa.row n)=n:=by
 show vL (rowOf (toL n).length (lim (toL n)))=n
 rw [lO,cX]
def bs (n:Nat):Nat:=(toB n).length
theorem oZ (n:Nat):aa.len n≤bs n:=by
 show (toL n).length≤(toB n).length
 refine kK (Nat.lt_of_lt_of_le (LA (Nat.le_refl _)) ?_)
 exact Nat.pow_le_pow_left (by decide) _
theorem rq {n:Nat} (h:bs n≤17592186044416):aa.bR (aa.len n) (aa.row n)=true:=by
 show (okB (toL n).length (lim (toL n))&&decide ((toL n).length≤17592186044416))=true
 have:=oZ n
 have G:(toL n).length≤17592186044416:=Nat.le_trans this h
 rw [jM,decide_eq_true G]
 rfl
theorem ru {n:Nat} (h:bs n≤8796093022208):aa.br (aa.len n) (aa.row n)=true:=by
 show (okB (toL n).length (lim (toL n))&&decide ((toL n).length≤8796093022208))=true
 have:=oZ n
 have G:(toL n).length≤8796093022208:=Nat.le_trans this h
 rw [jM,decide_eq_true G]
 rfl
theorem wZ {n:Nat} (h:bs n≤17592186044416):aa.can (aa.len n) (aa.row n)=true:=by
 show (dW (toL n).length (lim (toL n))&&decide ((toL n).length≤17592186044416))=true
 have:=oZ n
 have G:(toL n).length≤17592186044416:=Nat.le_trans this h
 rw [wX,decide_eq_true G]
 rfl
theorem eW (z:Int):aa.val (aa.ng z) (aa.ms z)=z:=Pr z
theorem vD (z:Int):(aa.ms z).size=bs z.natAbs:=kW _
theorem bS {z:Int} (h:bs z.natAbs≤8796093022208):aa.ok (aa.ms z)=true:=decide_eq_true (by rw [vD];exact h)
theorem la (b:Bool) (s:ByteArray):aa.vs s=(aa.val b s).natAbs:=(Zb b s).symm
theorem oG (s:ByteArray):bs (aa.vs s)≤s.size:=yd (k9 s)
theorem dI (b:Bool) (s:ByteArray):bs (aa.val b s).natAbs≤s.size:=by rw [← la];exact oG s
theorem v7 (z:Int):aa.vs (aa.ms z)=z.natAbs:=jg _
theorem zV (n:Nat):aa.vs (aa.mg n)=n:=jg _
theorem gH {n m:Nat} (h:n < 256 ^ m):bs n≤m:=yd h
theorem nz (n:Nat):n < 256 ^ bs n:=LA (Nat.le_refl _)
theorem dH {a b:Nat} (h:a≤b):bs a≤bs b:=gH (Nat.lt_of_le_of_lt h (nz b))
theorem sI (a b:Nat):bs (a+b)≤max (bs a) (bs b)+1:=by
 apply gH
 have G:=Nat.lt_of_lt_of_le (nz a) (Nat.pow_le_pow_right (by decide:0 < 256) (Nat.le_max_left (bs a) (bs b)))
 have I:=Nat.lt_of_lt_of_le (nz b) (Nat.pow_le_pow_right (by decide:0 < 256) (Nat.le_max_right (bs a) (bs b)))
 rw [Nat.pow_succ]
 omega
theorem wS (a b:Nat):bs (a*b)≤bs a+bs b:=by
 apply gH
 rw [Nat.pow_add]
 exact Nat.mul_lt_mul'' (nz a) (nz b)
theorem I8 (a b:Nat):bs (a - b)≤bs a:=dH (Nat.sub_le a b)
theorem R9 (a b:Nat):bs (a / b)≤bs a:=dH (Nat.div_le_self a b)
theorem Sb (a b:Nat):bs (a % b)≤bs a:=dH (Nat.mod_le a b)
theorem I9 (a b:Int):bs (a+b).natAbs≤max (bs a.natAbs) (bs b.natAbs)+1:=Nat.le_trans (dH (Int.natAbs_add_le a b)) (sI _ _)
theorem dV (a b:Int):bs (a*b).natAbs≤bs a.natAbs+bs b.natAbs:=by rw [Int.natAbs_mul];exact wS _ _
theorem wT (a:Int):bs (-a).natAbs=bs a.natAbs:=by rw [Int.natAbs_neg]
def og (S:Sg) (args:List AV):Option (Bool×AV):=match args with | [.val (.string s)]=>some (true, .val (.string (S.mg (S.vs s)))) | _=>none
def vN (S:Sg) (args:List AV):Option (Bool×AV):=match args with | [.val (.string s)]=>some (S.ok s,S.fP (S.vs s)) | _=>none
def zN (S:Sg) (args:List AV):Option (Bool×AV):=match args with | [.lst _ 129 m f]=>some (S.bR m f,S.fP (S.num m f)) | _=>none
def zu (S:Sg) (args:List AV):Option (Bool×AV):=match args with | [.val (.bool b), .lst _ 129 m f]=>some (S.bR m f,S.int (S.sg b (S.num m f))) | _=>none
def vM (S:Sg) (args:List AV):Option (Bool×AV):=match args with | [.lst _ 129 m f, .lst _ 129 n g]=>some (S.can m f&&S.can n g, .val (.int .i64 (S.cmp (S.num m f) (S.num n g)))) | _=>none
def kX (S:Sg) (args:List AV):Option (Bool×AV):=match args with | [.agg [.val (.bool b), .val (.string s)]]=>some (S.ok s,S.int (-(S.val b s))) | _=>none
def oc (S:Sg) (args:List AV):Option (Bool×AV):=match args with | [.agg [.val (.bool b), .val (.string s)], .agg [.val (.bool c), .val (.string t)]]=>some (S.ok s&&S.ok t, .val (.int .i64 (S.fK (S.val b s) (S.val c t)))) | _=>none
def cW (z:Int):Bool:=decide (-9223372036854775808≤z)&&decide (z≤9223372036854775807)
def kC (S:Sg) (args:List AV):Option (Bool×AV):=match args with | [.val (.int .i64 z)]=>some (cW z,S.int z) | _=>none
theorem tC {g:FuncId} {f G:List AV→Option (Bool×AV)} (h:Entry Tryz.prog g f) (I:∀ args r,G args=some (true,r)→f args=some (true,r)):Entry Tryz.prog g G:=fun args r J=>h args r (I args r J)
theorem B7:Entry Tryz.prog 106 (vN aa):=tC Lq fun args r h=>by
 unfold vN at h
 split at h
 ·simp only [Option.some.injEq,Prod.mk.injEq] at h
  obtain ⟨G,rfl⟩:=h
  have I:=of_decide_eq_true G
  exact congrArg some (Prod.ext (show decide (_≤140737488355328)=true from decide_eq_true (Nat.le_trans I (by decide))) rfl)
 ·cases h
theorem Kd:Entry Tryz.prog 140 (zN aa):=tC Pd fun args r h=>by
 unfold zN at h
 split at h
 ·simp only [Option.some.injEq,Prod.mk.injEq] at h
  obtain ⟨G,rfl⟩:=h
  have G:(okB _ _&&decide (_≤_))=true:=G
  rw [Bool.and_eq_true,decide_eq_true_eq] at G
  exact congrArg some (Prod.ext (show (okB _ _&&decide (_≤140737488355328))=true by rw [G.1,decide_eq_true (Nat.le_trans G.2 (by decide))];rfl) rfl)
 ·cases h
theorem B8:Entry Tryz.prog 108 (zu aa):=Mj
theorem B6:Entry Tryz.prog 107 (vM aa):=tC JF fun args r h=>by
 unfold vM at h
 split at h
 ·simp only [Option.some.injEq,Prod.mk.injEq] at h
  obtain ⟨G,rfl⟩:=h
  have G:((dW _ _&&decide (_≤_))&&(dW _ _&&decide (_≤_)))=true:=G
  simp only [Bool.and_eq_true,decide_eq_true_eq] at G
  obtain ⟨⟨I,J⟩,M,O⟩:=G
  exact congrArg some (Prod.ext (show (dW _ _&&dW _ _&&decide (_≤140737488355328)&&decide (_≤140737488355328))=true by rw [I,M,decide_eq_true (Nat.le_trans J (by decide)),decide_eq_true (Nat.le_trans O (by decide))];rfl) rfl)
 ·cases h
theorem JV:Entry Tryz.prog 121 (kX aa):=tC Ze fun args r h=>by
 unfold kX at h
 split at h
 ·simp only [Option.some.injEq,Prod.mk.injEq] at h
  obtain ⟨G,rfl⟩:=h
  have I:=of_decide_eq_true G
  exact congrArg some (Prod.ext (show decide (_≤17592186044416)=true from decide_eq_true (Nat.le_trans I (by decide))) rfl)
 ·cases h
theorem JR:Entry Tryz.prog 64 (oc aa):=tC SR fun args r h=>by
 unfold oc at h
 split at h
 ·simp only [Option.some.injEq,Prod.mk.injEq] at h
  obtain ⟨G,rfl⟩:=h
  have G:(decide (_≤_)&&decide (_≤_))=true:=G
  simp only [Bool.and_eq_true,decide_eq_true_eq] at G
  exact congrArg some (Prod.ext (show (decide (_≤17592186044416)&&decide (_≤17592186044416))=true by rw [decide_eq_true (Nat.le_trans G.1 (by decide)),decide_eq_true (Nat.le_trans G.2 (by decide))];rfl) rfl)
 ·cases h
theorem xD:Entry Tryz.prog 69 (kC aa):=Zr
theorem dT {p:Prop} [Decidable p] (h:p):decide p=true:=decide_eq_true h
theorem dF {p:Prop} [Decidable p] (h:¬ p):decide p=false:=decide_eq_false h
theorem aJ {z:Int} (h: -9223372036854775808≤z∧z≤9223372036854775807):ah .i64 z=true:=fu h.1 h.2
theorem di {z:Int} (h:0≤z∧z≤18446744073709551615):ah .u64 z=true:=by
 unfold ah;rw [Bool.and_eq_true,decide_eq_true_eq,decide_eq_true_eq];exact h
theorem dG (n:Nat):IntKind.u32.wrap (n:Int)=((n % 4294967296:Nat):Int):=by rw [IntKind.wrap_u32];omega
theorem sc (n:Nat):IntKind.u64.wrap (n:Int)=((n % 18446744073709551616:Nat):Int):=by rw [IntKind.wrap_u64];omega
theorem gM (a b:Nat):(a:Int).fdiv (b:Int)=((a / b:Nat):Int):=by rw [Int.fdiv_eq_ediv_of_nonneg _ (by omega)];rfl
theorem jq (a:Nat):(a:Int).fdiv (4294967296:Int)=((a / 4294967296:Nat):Int):=gM a 4294967296
theorem cE {l:List Int} (h:aH l) (i:Nat) (hi:i < l.length):∃ a:Nat,a < 4294967296∧l[i]=(a:Int)∧l.getD i 0=(a:Int):=by
 obtain ⟨a,ha,G⟩:=XW h i hi
 exact ⟨a,ha,G,by rw [List.getD_eq_getElem?_getD,List.getElem?_eq_getElem hi,Option.getD_some,G]⟩
theorem yT (n:Nat) (h:n≤35184372088832):aQ Tryz.prog n 129=true:=by
 unfold aQ
 rw [Bool.and_eq_true,decide_eq_true_eq,decide_eq_true_eq,show Tryz.prog.bytesOf 129=4 by kernel_rfl]
 omega
theorem j4 (zs:List Int):rowOf zs.length (lim zs)=zs:=by rw [pG _ (Nat.le_refl _),List.take_length]
theorem lD {zs:List Int} (h:aH zs) (G:zs.length≤17592186044416):aa.bR zs.length (lim zs)=true:=by
 show (okB _ _&&decide _)=true
 rw [(e9 _ _).2 (by rw [j4];exact h),decide_eq_true G]
 rfl
theorem lB (zs:List Int):aa.num zs.length (lim zs)=vL zs:=by
 show vL (rowOf _ _)=_
 rw [j4]
theorem iJ {zs:List Int} (h:aH zs):okB zs.length (lim zs)=true:=(e9 _ _).2 (by rw [j4];exact h)
theorem kN {fl:Bool} {m:Nat} {f:Nat→Nat→AV} {α:Nat→Nat×Nat} {B:Nat→Prop} {w:World} {D:Nat→Prop} {x:Value} (G:okB m f=true) (h:(AV.lst fl 129 m f).Rel Tryz.prog α B w D x):(AV.lst false 129 (rowOf m f).length (lim (rowOf m f))).Rel Tryz.prog α B w D x:=by
 rw [cz]
 exact tV (cB cr G h)
theorem L7 {m:Nat} {f:Nat→Nat→AV} (h:aa.bR m f=true):okB m f=true∧aH (rowOf m f)∧(rowOf m f).length≤17592186044416∧aa.num m f=vL (rowOf m f):=by
 have h:(okB m f&&decide (m≤17592186044416))=true:=h
 rw [Bool.and_eq_true,decide_eq_true_eq] at h
 exact ⟨h.1,(e9 _ _).1 h.1,by rw [cz];exact h.2,rfl⟩
theorem rr {m:Nat} {f:Nat→Nat→AV} (h:aa.br m f=true):okB m f=true∧aH (rowOf m f)∧(rowOf m f).length≤8796093022208∧aa.num m f=vL (rowOf m f):=by
 have h:(okB m f&&decide (m≤8796093022208))=true:=h
 rw [Bool.and_eq_true,decide_eq_true_eq] at h
 exact ⟨h.1,(e9 _ _).1 h.1,by rw [cz];exact h.2,rfl⟩
theorem sL {m:Nat} {f:Nat→Nat→AV} (h:aa.can m f=true):okB m f=true∧aH (rowOf m f)∧(rowOf m f).length≤17592186044416∧aa.num m f=vL (rowOf m f)∧rowOf m f=toL (aa.num m f):=by
 have h:(dW m f&&decide (m≤17592186044416))=true:=h
 rw [Bool.and_eq_true,decide_eq_true_eq] at h
 obtain ⟨G,I⟩:=h
 unfold dW at G
 rw [Bool.and_eq_true,decide_eq_true_eq] at G
 exact ⟨G.1,(e9 _ _).1 G.1,by rw [cz];exact I,rfl,G.2⟩
theorem bB (n:Nat) (h:n≤140737488355328):ah .i64 (n:Int)=true:=aJ (by omega)
def kM (a b:Int):Int:= @ite Int (a < b) (Int.decLt a b) b a
theorem LI (a b:Nat):kM (a:Int) (b:Int)=((max a b:Nat):Int):=by
 unfold kM
 by_cases h:(a:Int) < b
 ·rw [if_pos h];omega
 ·rw [if_neg h];omega
end
end Go.Proofs.YtamcpiicmfielaaGreat.L
namespace Go.Proofs.YtamcpiicmfielaaGreat.L
open Go Go.V Go.RowKit Go.Proofs.YtamcpiicmfielaaGreat.Sp Go.Proofs.YtamcpiicmfielaaGreat.F Go.Proofs.YtamcpiicmfielaaGreatW.PrintWords
open Go.Proofs (Tryz.prog)
noncomputable section
abbrev fZ:List Bool:= [false,true,false,true,true,true,true]
def fE (I zs:List Int) (c:Int) (G:List Int) (n i:Int):List AV:=ao 56 [(1, .lst false 129 I.length (lim I)),(5, .sl false 129 0 0 zs.length),(6, .val (.int .u64 c)),(20, .lst false 129 G.length (lim G)),(21, .val (.int .i64 n)),(22, .val (.int .i64 i))]
def ft (I zs:List Int) (c:Int) (G:List Int) (n i:Int):Hp:= [.row (.ints .u32 zs) 129 .live]
theorem RF:aI Tryz.prog 118 fZ=some (.loop (lb 118 fZ)):=by kernel_rfl
theorem Tp:aI Tryz.prog 118 (false :: fZ)=some (lb 118 fZ):=by kernel_rfl
theorem Nv (I zs:List Int) (c:Int) (G:List Int) (n i:Int):letI J:=(IntKind.u64.wrap (IntKind.u64.wrap (c+G.getD i.toNat (0:Int))+I.getD i.toNat (0:Int)));
  (aP Tryz.prog bg 118 [1,5,6,20,21,22] (lb 118 fZ) (false :: fZ) (fE I zs c G n i) (ft I zs c G n i)=(bif decide (i < n) then (bif decide ((0:Int)≤i)&&decide (i < (↑G.length:Int)) then (bif ah IntKind.u64 (G.getD i.toNat (0:Int)) then (bif decide (i < (↑I.length:Int)) then (bif decide ((0:Int)≤i)&&decide (i < (↑I.length:Int)) then (bif ah IntKind.u64 (I.getD i.toNat (0:Int)) then (bif decide (zs.length*1≤zs.length)&&aQ Tryz.prog (zs.length+1) 129&&true then (bif ah IntKind.i64 (i+(1:Int)) then some (.normal,ao 56 [(1,(.lst false 129 I.length (lim I))),(5,(.sl false 129 0 0 (zs.length+1))),(6,(.val (.int .u64 (J.fdiv (4294967296:Int))))),(20,(.lst false 129 G.length (lim G))),(21,(.val (.int .i64 n))),(22,(.val (.int .i64 (i+(1:Int)))))], [(.row (.ints .u32 (List.take (zs.length*1) zs ++ [IntKind.u32.wrap J])) 129 .live)]) else none) else none) else none) else none) else (bif decide (zs.length*1≤zs.length)&&aQ Tryz.prog (zs.length+1) 129&&true then (bif ah IntKind.i64 (i+(1:Int)) then some (.normal,ao 56 [(1,(.lst false 129 I.length (lim I))),(5,(.sl false 129 0 0 (zs.length+1))),(6,(.val (.int .u64 ((IntKind.u64.wrap (c+G.getD i.toNat (0:Int))).fdiv (4294967296:Int))))),(20,(.lst false 129 G.length (lim G))),(21,(.val (.int .i64 n))),(22,(.val (.int .i64 (i+(1:Int)))))], [(.row (.ints .u32 (List.take (zs.length*1) zs ++ [IntKind.u32.wrap (IntKind.u64.wrap (c+G.getD i.toNat (0:Int)))])) 129 .live)]) else none) else none)) else none) else none) else some ((.exit 0),ao 56 [(1,(.lst false 129 I.length (lim I))),(5,(.sl false 129 0 0 zs.length)),(6,(.val (.int .u64 c))),(20,(.lst false 129 G.length (lim G))),(21,(.val (.int .i64 n))),(22,(.val (.int .i64 i)))], [(.row (.ints .u32 zs) 129 .live)]))):=by kernel_rfl
theorem E1 {I zs:List Int} {c:Int} {G:List Int} {n i:Int} {e:Ex} {T:List AV} {H:Hp} (h:aP Tryz.prog bg 118 [1,5,6,20,21,22] (lb 118 fZ) (false :: fZ) (fE I zs c G n i) (ft I zs c G n i)=some (e,T,H)):V.Ends Tryz.prog false 0 0 (lb 118 fZ) (fE I zs c G n i) (ft I zs c G n i) e T H:=
 bK (aK _) aO mixed Tp h
def uO (I zs:List Int) (c:Int) (G:List Int) (n i:Int):Prop:=
 aH I∧aH G∧I.length≤G.length∧G.length≤17592186044416∧n=G.length∧c=0∧i=0∧zs= []
def DB (I zs:List Int) (c:Int) (G:List Int) (n i:Int) (r:Int×Int×List Int):Prop:=
 aH r.2.2∧r.2.2.length=G.length∧∃ k:Nat,k≤1∧r.1=k∧vL r.2.2+4294967296 ^ G.length*k=vL G+vL I
theorem Z5 (I G:List Int) (ch:aH I) (b5:aH G) (ct:I.length≤G.length) (hb:G.length≤17592186044416) (d:Nat):∀ (i c:Nat) (out:List Int),i+d=G.length→aH out→out.length=i→c≤1→
  vL out+4294967296 ^ i*c=vL (G.take i)+vL (I.take i)→
  ∃ r:Int×Int×List Int,aA Tryz.prog (lb 118 fZ) (fE I out c G G.length i) (ft I out c G G.length i) (.exit 0) (fE I r.2.2 r.1 G G.length r.2.1) (ft I r.2.2 r.1 G G.length r.2.1)∧
   aH r.2.2∧r.2.2.length=G.length∧∃ k:Nat,k≤1∧r.1=k∧vL r.2.2+4294967296 ^ G.length*k=vL G+vL I:=by
 induction d with
 | zero=>
  intro i c out hi U O a6 aE
  have b4:i=G.length:=by omega
  subst b4
  refine ⟨((c:Int),(G.length:Int),out), .last (E1 ?_) (by intro h;cases h),U,O,c,a6,rfl, ?_⟩
  ·rw [Nv,dF (show ¬ ((G.length:Int) < G.length) by omega)]
   rfl
  ·rw [aE,List.take_of_length_le (by omega),List.take_of_length_le (by omega)]
 | succ d b0=>
  intro i c out hi U O a6 aE
  have a7:i < G.length:=by omega
  obtain ⟨a,ha,b2,b6⟩:=cE b5 i a7
  have bD:=kE G i a7
  rw [b2,Int.toNat_natCast] at bD
  have ab:=Nv I out c G G.length i
  rw [Int.toNat_natCast,b6,dT (show (i:Int) < G.length by omega),dT (show (0:Int)≤(i:Int) by omega),di (show 0≤(a:Int)∧(a:Int)≤18446744073709551615 by omega),aJ (show -9223372036854775808≤(i:Int)+1∧(i:Int)+1≤9223372036854775807 by omega),dT (show out.length*1≤out.length by omega),yT _ (show out.length+1≤35184372088832 by omega),Nat.mul_one,List.take_length] at ab
  have b1:∀ b:Nat,b < 4294967296→vL (I.take (i+1))=vL (I.take i)+4294967296 ^ i*b→
    vL (out ++ [(((c+a+b) % 4294967296:Nat):Int)])+4294967296 ^ (i+1)*((c+a+b) / 4294967296)=vL (G.take (i+1))+vL (I.take (i+1)):=by
   intro b a1 J
   rw [sf,O,Int.toNat_natCast,Nat.pow_succ,bD,J]
   have M:=Sz (n:=c+a+b) aE
   simp only [Nat.mul_add] at M ⊢
   omega
  by_cases bx:i < I.length
  ·obtain ⟨b,a1,b3,b7⟩:=cE ch i bx
   have J:=kE I i bx
   rw [b3,Int.toNat_natCast] at J
   obtain ⟨r,M,Z⟩:=b0 (i+1) ((c+a+b) / 4294967296) (out ++ [(((c+a+b) % 4294967296:Nat):Int)]) (by omega) (ue.2 ⟨U,by rw [mA];exact ⟨lx _,pg⟩⟩) (by simp [O]) (by omega) (b1 b a1 J)
   refine ⟨r, .more (E1 (T:=fE I (out ++ [(((c+a+b) % 4294967296:Nat):Int)]) ((c+a+b) / 4294967296:Nat) G G.length (i+1:Nat)) (H:=ft I (out ++ [(((c+a+b) % 4294967296:Nat):Int)]) ((c+a+b) / 4294967296:Nat) G G.length (i+1:Nat)) ?_) M,Z⟩
   rw [ab,dT (show (i:Int) < I.length by omega),b7,di (show 0≤(b:Int)∧(b:Int)≤18446744073709551615 by omega),← Int.natCast_add,sc,Nat.mod_eq_of_lt (show c+a < 18446744073709551616 by omega),← Int.natCast_add,sc,Nat.mod_eq_of_lt (show c+a+b < 18446744073709551616 by omega),dG,jq]
   unfold fE ft
   rw [List.length_append]
   rfl
  ·have J:vL (I.take (i+1))=vL (I.take i)+4294967296 ^ i*0:=by rw [List.take_of_length_le (by omega),List.take_of_length_le (by omega)];simp
   obtain ⟨r,M,Z⟩:=b0 (i+1) ((c+a+0) / 4294967296) (out ++ [(((c+a+0) % 4294967296:Nat):Int)]) (by omega) (ue.2 ⟨U,by rw [mA];exact ⟨lx _,pg⟩⟩) (by simp [O]) (by omega) (b1 0 (by omega) J)
   refine ⟨r, .more (E1 (T:=fE I (out ++ [(((c+a+0) % 4294967296:Nat):Int)]) ((c+a+0) / 4294967296:Nat) G G.length (i+1:Nat)) (H:=ft I (out ++ [(((c+a+0) % 4294967296:Nat):Int)]) ((c+a+0) / 4294967296:Nat) G G.length (i+1:Nat)) ?_) M,Z⟩
   rw [ab,dF (show ¬ (i:Int) < I.length by omega),← Int.natCast_add,sc,Nat.mod_eq_of_lt (show c+a < 18446744073709551616 by omega),dG,jq]
   unfold fE ft
   rw [List.length_append]
   rfl
theorem Yv (I zs:List Int) (c:Int) (G:List Int) (n i:Int) (h:uO I zs c G n i):∃ r:Int×Int×List Int,aA Tryz.prog (lb 118 fZ) (fE I zs c G n i) (ft I zs c G n i) (.exit 0) (fE I r.2.2 r.1 G n r.2.1) (ft I r.2.2 r.1 G n r.2.1)∧DB I zs c G n i r:=by
 obtain ⟨J,M,O,U,rfl,rfl,rfl,rfl⟩:=h
 exact Z5 I G J M O U G.length 0 0 [] (by omega) pg rfl (by omega) (by simp [cC])
def Gb (Z:List Int→List Int→Int→List Int→Int→Int→Bool) (O:List Int→List Int→Int→List Int→Int→Int→Int×Int×List Int) (T:List AV) (H:Hp):Option (Bool×Ex×List AV×Hp):=
 match al T 1,al T 5,al T 6,al T 20,al T 21,al T 22,H with
 | .lst false 129 M I, .sl false 129 0 0 U, .val (.int .u64 c), .lst false 129 J G, .val (.int .i64 n), .val (.int .i64 i), [.row (.ints .u32 zs) 129 .live]=>bif T.length==56 then some (okB M I&&okB J G&&decide (U=zs.length)&&Z (rowOf M I) zs c (rowOf J G) n i, .exit 0,fE (rowOf M I) ((O (rowOf M I) zs c (rowOf J G) n i).2.2) ((O (rowOf M I) zs c (rowOf J G) n i).1) (rowOf J G) n ((O (rowOf M I) zs c (rowOf J G) n i).2.1),ft (rowOf M I) ((O (rowOf M I) zs c (rowOf J G) n i).2.2) ((O (rowOf M I) zs c (rowOf J G) n i).1) (rowOf J G) n ((O (rowOf M I) zs c (rowOf J G) n i).2.1)) else none
 | _,_,_,_,_,_,_=>none
def jS (I zs:List Int) (c:Int) (G:List Int) (n i:Int):Int×Int×List Int:=Classical.epsilon fun ρ=>aA Tryz.prog (lb 118 fZ) (fE I zs c G n i) (ft I zs c G n i) (.exit 0) (fE I (ρ.2.2) (ρ.1) G n (ρ.2.1)) (ft I (ρ.2.2) (ρ.1) G n (ρ.2.1))∧DB I zs c G n i ρ
theorem MG (I zs:List Int) (c:Int) (G:List Int) (n i:Int) (h:uO I zs c G n i):aA Tryz.prog (lb 118 fZ) (fE I zs c G n i) (ft I zs c G n i) (.exit 0) (fE I ((jS I zs c G n i).2.2) ((jS I zs c G n i).1) G n ((jS I zs c G n i).2.1)) (ft I ((jS I zs c G n i).2.2) ((jS I zs c G n i).1) G n ((jS I zs c G n i).2.1))∧DB I zs c G n i (jS I zs c G n i):=Classical.epsilon_spec (Yv I zs c G n i h)
def sW (I zs:List Int) (c:Int) (G:List Int) (n i:Int):Bool:= @decide (uO I zs c G n i) (Classical.propDecidable _)
theorem Uk (I zs:List Int) (c:Int) (G:List Int) (n i:Int) (h:uO I zs c G n i):sW I zs c G n i=true:= @decide_eq_true _ (Classical.propDecidable _) h
theorem adv (T:List AV) (H:Hp) (e:Ex) (J:List AV) (I:Hp) (h:Gb sW jS T H=some (true,e,J,I)):V.Ends Tryz.prog false 0 0 (.loop (lb 118 fZ)) T H e J I:=by
 unfold Gb at h
 split at h
 ·rename_i b5 Z b6 c b4 U n i zs ab a7 bx aE a1 a6
  rw [Bool.cond_eq_ite] at h
  split at h
  ·rename_i M
   rw [beq_iff_eq] at M
   simp only [Option.some.injEq,Prod.mk.injEq,Bool.and_eq_true,decide_eq_true_eq] at h
   obtain ⟨⟨⟨⟨k1,b0⟩,b1⟩,b2⟩,rfl,rfl,rfl⟩:=h
   have b3:= @of_decide_eq_true _ (Classical.propDecidable _) b2
   refine Ends.pre (MG (rowOf b5 Z) zs c (rowOf b4 U) n i b3).1.ends (fun α B w D b7 bD=>bw M (fun p O y G=> ?_) bD)
   simp only [List.mem_cons,List.not_mem_nil,or_false] at O
   rcases O with rfl | rfl | rfl | rfl | rfl | rfl
   ·rw [ab] at G;rw [cz];exact cB cr k1 G
   ·rw [a7] at G;rw [← b1];exact G
   ·rw [bx] at G;exact G
   ·rw [aE] at G;rw [cz];exact cB cr b0 G
   ·rw [a1] at G;exact G
   ·rw [a6] at G;exact G
  ·cases h
 ·cases h
def CT (S:Sg):FuncId→List AV→Option (Bool×AV):=au 140 (zN S) aM
theorem sr:bf Tryz.prog (CT aa):=(aK _).add Kd
def az (_:FuncId):Bool:=true
def Ap (S:Sg) (c:List Int→List Int→Int→List Int→Int→Int→Bool) (G:List Int→List Int→Int→List Int→Int→Int→Int×Int×List Int):Env:= ⟨CT S,az,ma 118 fZ [1,5,6,20,21,22] (Gb c G) aq⟩
theorem M5 (S:Sg) (c:List Int→List Int→Int→List Int→Int→Int→Bool) (aE:List Int→List Int→Int→List Int→Int→Int→Int×Int×List Int) (G I:List Int):letI J:=(aE (rowOf G.length (lim G)) [] (0:Int) (rowOf I.length (lim I)) (↑I.length:Int) (0:Int));letI M:=(aE (rowOf I.length (lim I)) [] (0:Int) (rowOf G.length (lim G)) (↑G.length:Int) (0:Int));letI Z:=(List.take (J.snd.snd.length*1) J.snd.snd ++ [IntKind.u32.wrap J.fst]);letI ab:=(List.take (M.snd.snd.length*1) M.snd.snd ++ [IntKind.u32.wrap M.fst]);letI O:=(J.snd.snd.length+1);letI U:=(M.snd.snd.length+1);
  (aG Tryz.prog (Ap S c aE) 10 10 118 [.lst false 129 G.length (lim G), .lst false 129 I.length (lim I)]=(bif decide ((↑G.length:Int) < (↑I.length:Int)) then (bif ah IntKind.i64 ((↑I.length:Int)+(1:Int)) then (bif decide ((4:Int)*((↑I.length:Int)+(1:Int))≤(281474976710656:Int))&&decide ((↑I.length:Int)+(1:Int)≤(9223372036854775807:Int)) then (bif okB G.length (lim G)&&okB I.length (lim I)&&true&&c (rowOf G.length (lim G)) [] (0:Int) (rowOf I.length (lim I)) (↑I.length:Int) (0:Int) then (bif decide (J.snd.snd.length*1≤J.snd.snd.length)&&aQ Tryz.prog O 129&&true then (bif decide (0+O*1≤Z.length) then (bif S.bR O (lim Z) then some (.lst false 129 (S.len (S.num O (lim Z))) (S.row (S.num O (lim Z)))) else none) else none) else none) else none) else none) else none) else (bif ah IntKind.i64 ((↑G.length:Int)+(1:Int)) then (bif decide ((4:Int)*((↑G.length:Int)+(1:Int))≤(281474976710656:Int))&&decide ((↑G.length:Int)+(1:Int)≤(9223372036854775807:Int)) then (bif okB I.length (lim I)&&okB G.length (lim G)&&true&&c (rowOf I.length (lim I)) [] (0:Int) (rowOf G.length (lim G)) (↑G.length:Int) (0:Int) then (bif decide (M.snd.snd.length*1≤M.snd.snd.length)&&aQ Tryz.prog U 129&&true then (bif decide (0+U*1≤ab.length) then (bif S.bR U (lim ab) then some (.lst false 129 (S.len (S.num U (lim ab))) (S.row (S.num U (lim ab)))) else none) else none) else none) else none) else none) else none))):=by kernel_rfl
def zw (S:Sg) (args:List AV):Option (Bool×AV):=match args with | [.lst _ 129 m f, .lst _ 129 n g]=>some (S.br m f&&S.br n g,S.fP (S.num m f+S.num n g)) | _=>none
theorem Z6 (G I:List Int) (ab:aH G) (aE:aH I) (bx:G.length≤8796093022208) (bD:I.length≤8796093022208):aG Tryz.prog (Ap aa sW jS) 10 10 118 [.lst false 129 G.length (lim G), .lst false 129 I.length (lim I)]=some (aa.fP (vL G+vL I)):=by
 have a7:∀ (us vs:List Int),aH us→aH vs→us.length≤vs.length→vs.length≤8796093022208→∃ r:Int×Int×List Int,jS us [] 0 vs vs.length 0=r∧sW us [] 0 vs vs.length 0=true∧aH (r.2.2 ++ [IntKind.u32.wrap r.1])∧r.2.2.length=vs.length∧vL (r.2.2 ++ [IntKind.u32.wrap r.1])=vL vs+vL us:=by
  intro us vs b0 b1 J hb
  have a6:uO us [] 0 vs vs.length 0:= ⟨b0,b1,J,by omega,rfl,rfl,rfl,rfl⟩
  obtain ⟨_,O,M,k,Z,a1,U⟩:=MG us [] 0 vs vs.length 0 a6
  have e:IntKind.u32.wrap (jS us [] 0 vs vs.length 0).1=(k:Int):=by rw [a1,dG,Nat.mod_eq_of_lt (by omega)]
  refine ⟨_,rfl,Uk _ _ _ _ _ _ a6, ?_,M, ?_⟩
  ·rw [e];exact ue.2 ⟨O,by rw [mA];exact ⟨by omega,pg⟩⟩
  ·rw [e,sf,M,Int.toNat_natCast,U]
 by_cases h:G.length < I.length
 ·obtain ⟨r,O,M,Z,a1,U⟩:=a7 G I ab aE (by omega) bD
  have J:(r.2.2 ++ [IntKind.u32.wrap r.1]).length=r.2.2.length+1:=by simp
  rw [M5,dT (show (G.length:Int) < I.length by omega)]
  simp only [cond_true,j4,Nat.mul_one,Nat.zero_add]
  rw [O,aJ (show -9223372036854775808≤(I.length:Int)+1∧(I.length:Int)+1≤9223372036854775807 by omega),dT (show (4:Int)*((I.length:Int)+1)≤281474976710656 by omega),dT (show (I.length:Int)+1≤9223372036854775807 by omega),iJ ab,iJ aE,M]
  rw [List.take_length,J,dT (show r.2.2.length≤r.2.2.length by omega),yT _ (by omega),dT (show r.2.2.length+1≤r.2.2.length+1 by omega),← J,lD Z (by omega),lB,U,Nat.add_comm]
  rfl
 ·obtain ⟨r,O,M,Z,a1,U⟩:=a7 I G aE ab (by omega) bx
  have J:(r.2.2 ++ [IntKind.u32.wrap r.1]).length=r.2.2.length+1:=by simp
  rw [M5,dF (show ¬ (G.length:Int) < I.length by omega)]
  simp only [cond_false,j4,Nat.mul_one,Nat.zero_add]
  rw [O,aJ (show -9223372036854775808≤(G.length:Int)+1∧(G.length:Int)+1≤9223372036854775807 by omega),dT (show (4:Int)*((G.length:Int)+1)≤281474976710656 by omega),dT (show (G.length:Int)+1≤9223372036854775807 by omega),iJ ab,iJ aE,M]
  rw [List.take_length,J,dT (show r.2.2.length≤r.2.2.length by omega),yT _ (by omega),dT (show r.2.2.length+1≤r.2.2.length+1 by omega),← J,lD Z (by omega),lB,U]
  rfl
theorem JX:Entry Tryz.prog 118 (zw aa):=by
 refine il (E:=Ap aa sW jS) (u:=10) (d:=10) sr (aC.none.nt RF adv).ok (by kernel_rfl) (fun args r h=> ?_)
 unfold zw at h
 split at h
 ·simp only [Option.some.injEq,Prod.mk.injEq,Bool.and_eq_true] at h
  obtain ⟨⟨a1,a6⟩,rfl⟩:=h
  obtain ⟨I,J,M,O⟩:=rr a1
  obtain ⟨U,Z,ab,aE⟩:=rr a6
  refine ⟨_,_,Z6 _ _ J Z M ab,fun B w b0 G=> ?_,fun B w y G=>by rw [O,aE];exact G⟩
  obtain ⟨y,zs,rfl,q1,q2⟩:=G
  obtain ⟨bD,zs,rfl,a7,bx⟩:=q2
  exact ⟨y,_,rfl,kN I q1,bD,_,rfl,kN U a7,bx⟩
 ·cases h
end
end Go.Proofs.YtamcpiicmfielaaGreat.L
namespace Go.Proofs.YtamcpiicmfielaaGreat.L
open Go Go.V Go.RowKit Go.Proofs.YtamcpiicmfielaaGreat.Sp Go.Proofs.YtamcpiicmfielaaGreat.F Go.Proofs.YtamcpiicmfielaaGreatW.PrintWords
open Go.Proofs (Tryz.prog)
noncomputable section
def bV (x:Int):Bool:=decide (0≤x)&&decide (x < 4294967296)
def zK (args:List AV):Option (Bool×AV):=match args with
 | [.val (.int .u32 x), .val (.int .u32 y), .val (.int .u32 b)]=>some (bV x&&bV y&&decide (0≤b)&&decide (b≤1), .tup [.val (.int .u32 ((x+8589934592 - y - b) % 4294967296)), .val (.int .u32 (if x < y+b then 1 else 0))])
 | _=>none
theorem acP (x y b:Int):aG Tryz.prog ⟨aM,az,aq⟩ 10 10 154 [.val (.int .u32 x), .val (.int .u32 y), .val (.int .u32 b)]=
  (some (.tup [(.val (.int .u32 (IntKind.u32.wrap (IntKind.u32.wrap (x - y) - b)))),(.val (.int .u32 ((b9 BinOp.or IntKind.u32 (b9 BinOp.and IntKind.u32 (IntKind.u32.wrap (↑(BitVec.ofInt (32:Nat) (4294967295:Int) ^^^ BitVec.ofInt (32:Nat) x).toNat:Int)) y) (b9 BinOp.and IntKind.u32 (IntKind.u32.wrap (↑(BitVec.ofInt (32:Nat) (4294967295:Int) ^^^ BitVec.ofInt (32:Nat) (b9 BinOp.xor IntKind.u32 x y)).toNat:Int)) (IntKind.u32.wrap (IntKind.u32.wrap (x - y) - b)))).fdiv (2147483648:Int))))])):=by kernel_rfl
theorem jI {x:Int} (h:bV x=true):∃ a:Nat,a < 4294967296∧x=a:=by
 unfold bV at h
 rw [Bool.and_eq_true,decide_eq_true_eq,decide_eq_true_eq] at h
 exact ⟨x.toNat,by omega,by omega⟩
theorem fx {a:Nat} (h:a < 4294967296):bV (a:Int)=true:=by
 unfold bV
 rw [decide_eq_true (show (0:Int)≤a by omega),decide_eq_true (show (a:Int) < 4294967296 by omega)]
 rfl
theorem Kb:Entry Tryz.prog 154 zK:=by
 refine aZ (E:= ⟨aM,az,aq⟩) (u:=10) (d:=10) (aK _) aO mixed (by kernel_rfl) (fun args r h=> ?_)
 unfold zK at h
 split at h
 ·rename_i x y b
  simp only [Option.some.injEq,Prod.mk.injEq,Bool.and_eq_true,decide_eq_true_eq] at h
  obtain ⟨⟨⟨⟨M,O⟩,ab⟩,aE⟩,rfl⟩:=h
  obtain ⟨x,U,rfl⟩:=jI M
  obtain ⟨y,Z,rfl⟩:=jI O
  obtain ⟨b,rfl⟩:∃ c:Nat,b=c:= ⟨b.toNat,by omega⟩
  have h:=acO x y b U Z (by omega)
  unfold BB.f at h
  simp only [Option.some.injEq,Prod.mk.injEq] at h
  obtain ⟨k1,G⟩:=h
  have e1:IntKind.u32.wrap (IntKind.u32.wrap ((x:Int) - y) - b)=(((x:Int) - y) % 4294967296 - b) % 4294967296:=by rw [IntKind.wrap_u32,IntKind.wrap_u32]
  rw [acP,e1]
  rw [k1] at G ⊢
  refine congrArg some ?_
  have I:(((x+8589934592 - y - b) % 4294967296:Nat):Int)=((x:Int)+8589934592 - y - b) % 4294967296:=by omega
  have J:(((if x < y+b then 1 else 0:Nat)):Int)=if (x:Int) < (y:Int)+b then 1 else 0:=by split <;> split <;> omega
  rw [J] at G
  rw [← I,← G]
  rw [Int.fdiv_eq_ediv_of_nonneg _ (by decide)]
  rfl
 ·cases h
def ql:Env:= ⟨au 154 zK aM,az,aq⟩
theorem G1:bf Tryz.prog ql.C:=(aK _).add Kb
abbrev eI:List Bool:= [false,true,false,true,true,true]
def fD (I zs:List Int) (c:Int) (G:List Int) (n i:Int):List AV:=ao 41 [(1, .lst false 129 I.length (lim I)),(5, .sl false 129 0 0 zs.length),(6, .val (.int .u32 c)),(13, .lst false 129 G.length (lim G)),(14, .val (.int .i64 n)),(15, .val (.int .i64 i))]
def fq (I zs:List Int) (c:Int) (G:List Int) (n i:Int):Hp:= [.row (.ints .u32 zs) 129 .live]
theorem RB:aI Tryz.prog 119 eI=some (.loop (lb 119 eI)):=by kernel_rfl
theorem Tj:aI Tryz.prog 119 (false :: eI)=some (lb 119 eI):=by kernel_rfl
theorem Ns (I zs:List Int) (c:Int) (G:List Int) (n i:Int):
  (aP Tryz.prog ql 119 [1,5,6,13,14,15] (lb 119 eI) (false :: eI) (fD I zs c G n i) (fq I zs c G n i)=(bif decide (i < n) then (bif decide ((0:Int)≤i)&&decide (i < (↑G.length:Int)) then (bif decide (i < (↑I.length:Int)) then (bif decide ((0:Int)≤i)&&decide (i < (↑I.length:Int)) then (bif bV (G.getD i.toNat (0:Int))&&bV (I.getD i.toNat (0:Int))&&decide ((0:Int)≤c)&&decide (c≤(1:Int)) then (bif decide ((0:Int)≤i)&&decide (i < (↑zs.length:Int)) then (bif decide (0+i.toNat*1 < zs.length) then (bif ah IntKind.i64 (i+(1:Int)) then some (.normal,ao 41 [(1,(.lst false 129 I.length (lim I))),(5,(.sl false 129 0 0 zs.length)),(6,(.val (.int .u32 (if G.getD i.toNat (0:Int) < I.getD i.toNat (0:Int)+c then (1:Int) else (0:Int))))),(13,(.lst false 129 G.length (lim G))),(14,(.val (.int .i64 n))),(15,(.val (.int .i64 (i+(1:Int)))))], [(.row (.ints .u32 (zs.set (0+i.toNat*1) ((G.getD i.toNat (0:Int)+(8589934592:Int) - I.getD i.toNat (0:Int) - c) % (4294967296:Int)))) 129 .live)]) else none) else none) else none) else none) else none) else (bif bV (G.getD i.toNat (0:Int))&&true&&decide ((0:Int)≤c)&&decide (c≤(1:Int)) then (bif decide ((0:Int)≤i)&&decide (i < (↑zs.length:Int)) then (bif decide (0+i.toNat*1 < zs.length) then (bif ah IntKind.i64 (i+(1:Int)) then some (.normal,ao 41 [(1,(.lst false 129 I.length (lim I))),(5,(.sl false 129 0 0 zs.length)),(6,(.val (.int .u32 (if G.getD i.toNat (0:Int) < (0:Int)+c then (1:Int) else (0:Int))))),(13,(.lst false 129 G.length (lim G))),(14,(.val (.int .i64 n))),(15,(.val (.int .i64 (i+(1:Int)))))], [(.row (.ints .u32 (zs.set (0+i.toNat*1) ((G.getD i.toNat (0:Int)+(8589934592:Int) - (0:Int) - c) % (4294967296:Int)))) 129 .live)]) else none) else none) else none) else none)) else none) else some ((.exit 0),ao 41 [(1,(.lst false 129 I.length (lim I))),(5,(.sl false 129 0 0 zs.length)),(6,(.val (.int .u32 c))),(13,(.lst false 129 G.length (lim G))),(14,(.val (.int .i64 n))),(15,(.val (.int .i64 i)))], [(.row (.ints .u32 zs) 129 .live)]))):=by kernel_rfl
theorem Oj {I zs:List Int} {c:Int} {G:List Int} {n i:Int} {e:Ex} {T:List AV} {H:Hp} (h:aP Tryz.prog ql 119 [1,5,6,13,14,15] (lb 119 eI) (false :: eI) (fD I zs c G n i) (fq I zs c G n i)=some (e,T,H)):V.Ends Tryz.prog false 0 0 (lb 119 eI) (fD I zs c G n i) (fq I zs c G n i) e T H:=
 bK G1 aO mixed Tj h
def uL (I zs:List Int) (c:Int) (G:List Int) (n i:Int):Prop:=
 aH I∧aH G∧aH zs∧zs.length=G.length∧I.length≤G.length∧vL I≤vL G∧G.length≤17592186044416∧n=G.length∧c=0∧i=0
def Dz (I zs:List Int) (c:Int) (G:List Int) (n i:Int) (r:Int×Int×List Int):Prop:=
 aH r.2.2∧r.2.2.length=G.length∧vL r.2.2=vL G - vL I
theorem Y5 (I G:List Int) (ct:aH I) (ch:aH G) (ea:I.length≤G.length) (dy:vL I≤vL G) (hb:G.length≤17592186044416) (d:Nat):∀ (i c:Nat) (out:List Int),i+d=G.length→aH out→out.length=G.length→c≤1→
  vL (out.take i)+vL (I.take i)=vL (G.take i)+4294967296 ^ i*c→
  ∃ r:Int×Int×List Int,aA Tryz.prog (lb 119 eI) (fD I out c G G.length i) (fq I out c G G.length i) (.exit 0) (fD I r.2.2 r.1 G G.length r.2.1) (fq I r.2.2 r.1 G G.length r.2.1)∧
   aH r.2.2∧r.2.2.length=G.length∧vL r.2.2=vL G - vL I:=by
 induction d with
 | zero=>
  intro i c out hi ab Z b2 aE
  have b7:i=G.length:=by omega
  subst b7
  rw [List.take_of_length_le (by omega),List.take_of_length_le (by omega),List.take_of_length_le (by omega)] at aE
  have O:=dQ ab
  rw [Z] at O
  have b3:c=0:=by
   rcases (show c=0∨c=1 by omega) with h | h
   ·exact h
   ·rw [h] at aE;omega
  rw [b3] at aE
  refine ⟨((c:Int),(G.length:Int),out), .last (Oj ?_) (by intro h;cases h),ab,Z,by show vL out=_;omega⟩
  rw [Ns,dF (show ¬ ((G.length:Int) < G.length) by omega)]
  rfl
 | succ d c7=>
  intro i c out hi ab Z b2 aE
  have a6:i < G.length:=by omega
  obtain ⟨a,ha,b5,c3⟩:=cE ch i a6
  have bx:=kE G i a6
  rw [b5,Int.toNat_natCast] at bx
  have dx:∀ b:Nat,b < 4294967296→vL (I.take (i+1))=vL (I.take i)+4294967296 ^ i*b→
    vL ((out.set i (((a+8589934592 - b - c) % 4294967296:Nat):Int)).take (i+1))+vL (I.take (i+1))=vL (G.take (i+1))+4294967296 ^ (i+1)*(if a < b+c then 1 else 0):=by
   intro b M c0
   rw [zP _ _ (by omega),sf,List.length_take,Nat.min_eq_left (by omega),Int.toNat_natCast,c0,bx,Nat.pow_succ]
   have b1:(a+8589934592 - b - c) % 4294967296+b+c=a+4294967296*(if a < b+c then 1 else 0):=by split <;> omega
   generalize (a+8589934592 - b - c) % 4294967296=D at*
   generalize (if a < b+c then 1 else 0)=q at*
   have U:=congrArg (4294967296 ^ i* ·) b1
   simp only [Nat.mul_add] at U
   rw [← Nat.mul_assoc] at U
   omega
  have b4:∀ b:Nat,((if a < b+c then 1 else 0:Nat))≤1:=fun b=>by split <;> omega
  have a1:=Ns I out c G G.length i
  have go:∀ b:Nat,b < 4294967296→vL (I.take (i+1))=vL (I.take i)+4294967296 ^ i*b→
    aP Tryz.prog ql 119 [1,5,6,13,14,15] (lb 119 eI) (false :: eI) (fD I out c G G.length i) (fq I out c G G.length i)=some (.normal,ao 41 [(1, .lst false 129 I.length (lim I)),(5, .sl false 129 0 0 out.length),(6, .val (.int .u32 (if (a:Int) < (b:Int)+c then 1 else 0))),(13, .lst false 129 G.length (lim G)),(14, .val (.int .i64 G.length)),(15, .val (.int .i64 ((i:Int)+1)))], [.row (.ints .u32 (out.set (0+i*1) (((a:Int)+8589934592 - b - c) % 4294967296))) 129 .live])→
    ∃ r:Int×Int×List Int,aA Tryz.prog (lb 119 eI) (fD I out c G G.length i) (fq I out c G G.length i) (.exit 0) (fD I r.2.2 r.1 G G.length r.2.1) (fq I r.2.2 r.1 G G.length r.2.1)∧
   aH r.2.2∧r.2.2.length=G.length∧vL r.2.2=vL G - vL I:=by
   intro b M J c5
   obtain ⟨r,O,U⟩:=c7 (i+1) _ (out.set i (((a+8589934592 - b - c) % 4294967296:Nat):Int)) (by omega) (fy ab _ _ (lx _).1 (lx _).2) (by rw [List.length_set];exact Z) (b4 b) (dx b M J)
   have bD:(((a+8589934592 - b - c) % 4294967296:Nat):Int)=((a:Int)+8589934592 - b - c) % 4294967296:=by omega
   have b0:(((if a < b+c then 1 else 0:Nat)):Int)=if (a:Int) < (b:Int)+c then 1 else 0:=by split <;> split <;> omega
   rw [bD,b0] at O
   refine ⟨r, .more (Oj ?_) O,U⟩
   rw [c5,Nat.zero_add,Nat.mul_one]
   unfold fD fq
   rw [List.length_set]
   rfl
  have c6:ah .i64 ((i:Int)+1)=true:=aJ (by omega)
  rw [Int.toNat_natCast,c3,dT (show (i:Int) < G.length by omega),dT (show (0:Int)≤(i:Int) by omega),c6,dT (show (i:Int) < (out.length:Int) by omega),dT (show 0+i*1 < out.length by omega),fx ha,dT (show (0:Int)≤(c:Int) by omega),dT (show (c:Int)≤1 by omega)] at a1
  by_cases a7:i < I.length
  ·obtain ⟨b,M,b6,c4⟩:=cE ct i a7
   have J:=kE I i a7
   rw [b6,Int.toNat_natCast] at J
   refine go b M J ?_
   rw [a1,dT (show (i:Int) < I.length by omega),c4,fx M]
   rfl
  ·have J:vL (I.take (i+1))=vL (I.take i)+4294967296 ^ i*0:=by rw [List.take_of_length_le (by omega),List.take_of_length_le (by omega)];simp
   refine go 0 (by omega) J ?_
   rw [a1,dF (show ¬ (i:Int) < I.length by omega)]
   rfl
theorem Yr (I zs:List Int) (c:Int) (G:List Int) (n i:Int) (h:uL I zs c G n i):∃ r:Int×Int×List Int,aA Tryz.prog (lb 119 eI) (fD I zs c G n i) (fq I zs c G n i) (.exit 0) (fD I r.2.2 r.1 G n r.2.1) (fq I r.2.2 r.1 G n r.2.1)∧Dz I zs c G n i r:=by
 obtain ⟨J,M,O,U,Z,ab,aE,rfl,rfl,rfl⟩:=h
 exact Y5 I G J M Z ab aE G.length 0 0 zs (by omega) O U (by omega) (by simp [cC])
def F7 (Z:List Int→List Int→Int→List Int→Int→Int→Bool) (O:List Int→List Int→Int→List Int→Int→Int→Int×Int×List Int) (T:List AV) (H:Hp):Option (Bool×Ex×List AV×Hp):=
 match al T 1,al T 5,al T 6,al T 13,al T 14,al T 15,H with
 | .lst false 129 M I, .sl false 129 0 0 U, .val (.int .u32 c), .lst false 129 J G, .val (.int .i64 n), .val (.int .i64 i), [.row (.ints .u32 zs) 129 .live]=>bif T.length==41 then some (okB M I&&okB J G&&decide (U=zs.length)&&Z (rowOf M I) zs c (rowOf J G) n i, .exit 0,fD (rowOf M I) ((O (rowOf M I) zs c (rowOf J G) n i).2.2) ((O (rowOf M I) zs c (rowOf J G) n i).1) (rowOf J G) n ((O (rowOf M I) zs c (rowOf J G) n i).2.1),fq (rowOf M I) ((O (rowOf M I) zs c (rowOf J G) n i).2.2) ((O (rowOf M I) zs c (rowOf J G) n i).1) (rowOf J G) n ((O (rowOf M I) zs c (rowOf J G) n i).2.1)) else none
 | _,_,_,_,_,_,_=>none
def kS (I zs:List Int) (c:Int) (G:List Int) (n i:Int):Int×Int×List Int:=Classical.epsilon fun ρ=>aA Tryz.prog (lb 119 eI) (fD I zs c G n i) (fq I zs c G n i) (.exit 0) (fD I (ρ.2.2) (ρ.1) G n (ρ.2.1)) (fq I (ρ.2.2) (ρ.1) G n (ρ.2.1))∧Dz I zs c G n i ρ
theorem MD (I zs:List Int) (c:Int) (G:List Int) (n i:Int) (h:uL I zs c G n i):aA Tryz.prog (lb 119 eI) (fD I zs c G n i) (fq I zs c G n i) (.exit 0) (fD I ((kS I zs c G n i).2.2) ((kS I zs c G n i).1) G n ((kS I zs c G n i).2.1)) (fq I ((kS I zs c G n i).2.2) ((kS I zs c G n i).1) G n ((kS I zs c G n i).2.1))∧Dz I zs c G n i (kS I zs c G n i):=Classical.epsilon_spec (Yr I zs c G n i h)
def xr (I zs:List Int) (c:Int) (G:List Int) (n i:Int):Bool:= @decide (uL I zs c G n i) (Classical.propDecidable _)
theorem Uh (I zs:List Int) (c:Int) (G:List Int) (n i:Int) (h:uL I zs c G n i):xr I zs c G n i=true:= @decide_eq_true _ (Classical.propDecidable _) h
theorem adr (T:List AV) (H:Hp) (e:Ex) (J:List AV) (I:Hp) (h:F7 xr kS T H=some (true,e,J,I)):V.Ends Tryz.prog false 0 0 (.loop (lb 119 eI)) T H e J I:=by
 unfold F7 at h
 split at h
 ·rename_i b5 Z b6 c b4 U n i zs ab a7 bx aE a1 a6
  rw [Bool.cond_eq_ite] at h
  split at h
  ·rename_i M
   rw [beq_iff_eq] at M
   simp only [Option.some.injEq,Prod.mk.injEq,Bool.and_eq_true,decide_eq_true_eq] at h
   obtain ⟨⟨⟨⟨k1,b0⟩,b1⟩,b2⟩,rfl,rfl,rfl⟩:=h
   have b3:= @of_decide_eq_true _ (Classical.propDecidable _) b2
   refine Ends.pre (MD (rowOf b5 Z) zs c (rowOf b4 U) n i b3).1.ends (fun α B w D b7 bD=>bw M (fun p O y G=> ?_) bD)
   simp only [List.mem_cons,List.not_mem_nil,or_false] at O
   rcases O with rfl | rfl | rfl | rfl | rfl | rfl
   ·rw [ab] at G;rw [cz];exact cB cr k1 G
   ·rw [a7] at G;rw [← b1];exact G
   ·rw [bx] at G;exact G
   ·rw [aE] at G;rw [cz];exact cB cr b0 G
   ·rw [a1] at G;exact G
   ·rw [a6] at G;exact G
  ·cases h
 ·cases h
def G7 (S:Sg) (G:List Int→List Int→Int→List Int→Int→Int→Bool) (I:List Int→List Int→Int→List Int→Int→Int→Int×Int×List Int):Env:= ⟨CT S,az,ma 119 eI [1,5,6,13,14,15] (F7 G I) aq⟩
theorem Y4 (S:Sg) (O:List Int→List Int→Int→List Int→Int→Int→Bool) (U:List Int→List Int→Int→List Int→Int→Int→Int×Int×List Int) (G J:List Int):letI M:=(List.replicate (↑G.length:Int).toNat (0:Int));letI I:=(U (rowOf J.length (lim J)) M (0:Int) (rowOf G.length (lim G)) (↑G.length:Int) (0:Int));
  (aG Tryz.prog (G7 S O U) 10 10 119 [.lst false 129 G.length (lim G), .lst false 129 J.length (lim J)]=(bif decide ((↑G.length:Int)≤(↑G.length:Int))&&decide ((4:Int)*(↑G.length:Int)≤(281474976710656:Int))&&decide ((↑G.length:Int)≤(9223372036854775807:Int)) then (bif okB J.length (lim J)&&okB G.length (lim G)&&decide ((↑G.length:Int).toNat=M.length)&&O (rowOf J.length (lim J)) M (0:Int) (rowOf G.length (lim G)) (↑G.length:Int) (0:Int) then (bif decide (0+I.snd.snd.length*1≤I.snd.snd.length) then (bif S.bR I.snd.snd.length (lim I.snd.snd) then some (.lst false 129 (S.len (S.num I.snd.snd.length (lim I.snd.snd))) (S.row (S.num I.snd.snd.length (lim I.snd.snd)))) else none) else none) else none) else none)):=by kernel_rfl
def Fv (S:Sg) (args:List AV):Option (Bool×AV):=match args with | [.lst _ 129 m f, .lst _ 129 n g]=>some (S.can m f&&S.can n g&&decide (S.num n g≤S.num m f),S.fP (S.num m f - S.num n g)) | _=>none
theorem VF:Entry Tryz.prog 119 (Fv aa):=by
 refine il (E:=G7 aa xr kS) (u:=10) (d:=10) sr (aC.none.nt RB adr).ok (by kernel_rfl) (fun args r h=> ?_)
 unfold Fv at h
 split at h
 ·rename_i fl m f ch n g
  simp only [Option.some.injEq,Prod.mk.injEq,Bool.and_eq_true,decide_eq_true_eq] at h
  obtain ⟨⟨⟨b0,b1⟩,Z⟩,rfl⟩:=h
  obtain ⟨aE,J,a1,M,a6⟩:=sL b0
  obtain ⟨a7,O,b7,U,bx⟩:=sL b1
  have b3:(rowOf n g).length≤(rowOf m f).length:=by
   rw [bx,a6];exact kK (Nat.lt_of_le_of_lt Z (ly (Nat.le_refl _)))
  have b2:vL (rowOf n g)≤vL (rowOf m f):=by rw [← M,← U];exact Z
  have ab:uL (rowOf n g) (List.replicate (rowOf m f).length 0) 0 (rowOf m f) (rowOf m f).length 0:= ⟨O,J,kO _,by simp,b3,b2,a1,rfl,rfl,rfl⟩
  obtain ⟨_,c1,c2,bD⟩:=MD _ _ _ _ _ _ ab
  have G:=Y4 aa xr kS (rowOf m f) (rowOf n g)
  simp only [j4,Nat.mul_one,Nat.zero_add,Int.toNat_natCast,List.length_replicate,eq_self,decide_true] at G
  rw [Uh _ _ _ _ _ _ ab] at G
  generalize kS (rowOf n g) (List.replicate (rowOf m f).length 0) 0 (rowOf m f) (rowOf m f).length 0=r at*
  rw [iJ J,iJ O,dT (show ((rowOf m f).length:Int)≤((rowOf m f).length:Int) by omega),dT (show (4:Int)*((rowOf m f).length:Int)≤281474976710656 by omega),dT (show ((rowOf m f).length:Int)≤9223372036854775807 by omega),dT (show r.2.2.length≤r.2.2.length by omega),lD c1 (by omega),lB,bD] at G
  refine ⟨_,_,G,fun B w ct I=> ?_,fun B w y I=>by rw [M,U];exact I⟩
  obtain ⟨y,zs,rfl,q1,q2⟩:=I
  obtain ⟨b6,zs,rfl,b4,b5⟩:=q2
  exact ⟨y,_,rfl,kN aE q1,b6,_,rfl,kN a7 b4,b5⟩
 ·cases h
end
end Go.Proofs.YtamcpiicmfielaaGreat.L
namespace Go.Proofs.YtamcpiicmfielaaGreat.L
open Go Go.V Go.RowKit Go.Proofs.YtamcpiicmfielaaGreat.Sp Go.Proofs.YtamcpiicmfielaaGreat.F Go.Proofs.YtamcpiicmfielaaGreatW.PrintWords
open Go.Proofs (Tryz.prog)
noncomputable section
abbrev gx:List Bool:= [false,true,false,true,true,false,false,true,true,false,false,true,false,true,true]
def jc (I zs:List Int) (j x c:Int) (G:List Int) (n k:Int) (us:List Int) (m i:Int):List AV:=ao 67 [(1, .lst false 129 I.length (lim I)),(5, .sl false 129 0 0 zs.length),(6, .val (.int .i64 j)),(7, .val (.int .u32 x)),(8, .val (.int .u64 c)),(17, .lst false 129 G.length (lim G)),(18, .val (.int .i64 n)),(19, .val (.int .i64 k)),(24, .lst false 129 us.length (lim us)),(25, .val (.int .i64 m)),(26, .val (.int .i64 i))]
def iE (I zs:List Int) (j x c:Int) (G:List Int) (n k:Int) (us:List Int) (m i:Int):Hp:= [.row (.ints .u32 zs) 129 .live]
theorem RX:aI Tryz.prog 109 gx=some (.loop (lb 109 gx)):=by kernel_rfl
theorem TL:aI Tryz.prog 109 (false :: gx)=some (lb 109 gx):=by kernel_rfl
theorem NJ (I zs:List Int) (j x c:Int) (G:List Int) (n k:Int) (us:List Int) (m i:Int):letI J:=(IntKind.u64.wrap (c+IntKind.u64.wrap (IntKind.u64.wrap (x*us.getD i.toNat (0:Int))+zs.getD (0+(j+i).toNat*1) (0:Int))));
  (aP Tryz.prog bg 109 [1,5,6,7,8,17,18,19,24,25,26] (lb 109 gx) (false :: gx) (jc I zs j x c G n k us m i) (iE I zs j x c G n k us m i)=(bif decide (i < m) then (bif decide ((0:Int)≤i)&&decide (i < (↑us.length:Int)) then (bif ah IntKind.u64 x then (bif ah IntKind.u64 (us.getD i.toNat (0:Int)) then (bif ah IntKind.i64 (j+i) then (bif decide ((0:Int)≤j+i)&&decide (j+i < (↑zs.length:Int)) then (bif decide (0+(j+i).toNat*1 < zs.length) then (bif ah IntKind.u64 (zs.getD (0+(j+i).toNat*1) (0:Int)) then (bif ah IntKind.i64 (j+i) then (bif decide ((0:Int)≤j+i)&&decide (j+i < (↑zs.length:Int)) then (bif decide (0+(j+i).toNat*1 < zs.length) then (bif ah IntKind.i64 (i+(1:Int)) then some (.normal,ao 67 [(1,(.lst false 129 I.length (lim I))),(5,(.sl false 129 0 0 zs.length)),(6,(.val (.int .i64 j))),(7,(.val (.int .u32 x))),(8,(.val (.int .u64 (J.fdiv (4294967296:Int))))),(17,(.lst false 129 G.length (lim G))),(18,(.val (.int .i64 n))),(19,(.val (.int .i64 k))),(24,(.lst false 129 us.length (lim us))),(25,(.val (.int .i64 m))),(26,(.val (.int .i64 (i+(1:Int)))))], [(.row (.ints .u32 (zs.set (0+(j+i).toNat*1) (IntKind.u32.wrap J))) 129 .live)]) else none) else none) else none) else none) else none) else none) else none) else none) else none) else none) else none) else some ((.exit 2),ao 67 [(1,(.lst false 129 I.length (lim I))),(5,(.sl false 129 0 0 zs.length)),(6,(.val (.int .i64 j))),(7,(.val (.int .u32 x))),(8,(.val (.int .u64 c))),(17,(.lst false 129 G.length (lim G))),(18,(.val (.int .i64 n))),(19,(.val (.int .i64 k))),(24,(.lst false 129 us.length (lim us))),(25,(.val (.int .i64 m))),(26,(.val (.int .i64 i)))], [(.row (.ints .u32 zs) 129 .live)]))):=by kernel_rfl
theorem OF {I zs:List Int} {j x c:Int} {G:List Int} {n k:Int} {us:List Int} {m i:Int} {e:Ex} {T:List AV} {H:Hp} (h:aP Tryz.prog bg 109 [1,5,6,7,8,17,18,19,24,25,26] (lb 109 gx) (false :: gx) (jc I zs j x c G n k us m i) (iE I zs j x c G n k us m i)=some (e,T,H)):V.Ends Tryz.prog false 0 0 (lb 109 gx) (jc I zs j x c G n k us m i) (iE I zs j x c G n k us m i) e T H:=
 bK (aK _) aO mixed TL h
def vd (I zs:List Int) (j x c:Int) (G:List Int) (n k:Int) (us:List Int) (m i:Int):Prop:=
 aH I∧aH zs∧aH G∧aH us∧zs.length≤17592186044416∧m=us.length∧i=0∧c=0∧bV x=true∧∃ a:Nat,j=a∧a+us.length < zs.length
def DO (I zs:List Int) (j x c:Int) (G:List Int) (n k:Int) (us:List Int) (m i:Int) (r:Int×Int×List Int):Prop:=
 aH r.2.2∧r.2.2.length=zs.length∧r.2.2.getD (j.toNat+us.length) 0=zs.getD (j.toNat+us.length) 0∧∃ q:Nat,q < 4294967296∧r.1=q∧vL r.2.2+4294967296 ^ (j.toNat+us.length)*q=vL zs+4294967296 ^ j.toNat*(x.toNat*vL us)
theorem ac2 (I G us:List Int) (n k:Int) (c0:aH us) (j a L V z:Nat) (ha:a < 4294967296) (c5:L≤17592186044416) (c7:j+us.length < L) (d:Nat):∀ (i c:Nat) (out:List Int),i+d=us.length→aH out→out.length=L→c < 4294967296→out.getD (j+us.length) 0=z→
  dR (vL out+4294967296 ^ (j+i)*c=V+4294967296 ^ j*(a*vL (us.take i)))→
  ∃ r:Int×Int×List Int,aA Tryz.prog (lb 109 gx) (jc I out j a c G n k us us.length i) (iE I out j a c G n k us us.length i) (.exit 2) (jc I r.2.2 j a r.1 G n k us us.length r.2.1) (iE I r.2.2 j a r.1 G n k us us.length r.2.1)∧
   aH r.2.2∧r.2.2.length=L∧r.2.2.getD (j+us.length) 0=z∧∃ q:Nat,q < 4294967296∧r.1=q∧vL r.2.2+4294967296 ^ (j+us.length)*q=V+4294967296 ^ j*(a*vL us):=by
 induction d with
 | zero=>
  intro i c out hi M Z a7 ab b0
  have b6:i=us.length:=by omega
  subst b6
  refine ⟨((c:Int),(us.length:Int),out), .last (OF ?_) (by intro h;cases h),M,Z,ab,c,a7,rfl, ?_⟩
  ·rw [NJ,dF (show ¬ ((us.length:Int) < us.length) by omega)]
   rfl
  ·have:=b0.out
   rw [List.take_length] at this
   exact this
 | succ d b1=>
  intro i c out hi M Z a7 ab aE
  have bx:i < us.length:=by omega
  obtain ⟨b,hb,b4,b7⟩:=cE c0 i bx
  have O:=dR.mk (kE us i bx)
  rw [b4,Int.toNat_natCast] at O
  have U:j+i < out.length:=by omega
  obtain ⟨o,dx,b5,ch⟩:=cE M (j+i) U
  have c6:a*b≤4294967295*4294967295:=Nat.mul_le_mul (by omega) (by omega)
  have J:=dR.mk (oi out (j+i) U (((c+(a*b+o)) % 4294967296:Nat):Int))
  rw [b5] at J
  simp only [Int.toNat_natCast] at J
  obtain ⟨r,a1,a6⟩:=b1 (i+1) ((c+(a*b+o)) / 4294967296) (out.set (j+i) (((c+(a*b+o)) % 4294967296:Nat):Int)) (by omega) (fy M _ _ (lx _).1 (lx _).2) (by rw [List.length_set];exact Z) (by omega) (by
   rw [List.getD_eq_getElem?_getD,List.getElem?_set_ne (by omega),← List.getD_eq_getElem?_getD];exact ab) (by
   have b0:=aE.out
   have ct:=O.out
   have dy:=J.out
   constructor
   rw [ct,show j+(i+1)=(j+i)+1 from rfl,Nat.pow_succ]
   have b2:4294967296 ^ (j+i)*((c+(a*b+o)) % 4294967296)+4294967296 ^ (j+i)*4294967296*((c+(a*b+o)) / 4294967296)=4294967296 ^ (j+i)*(c+(a*b+o)):=by
    rw [Nat.mul_assoc,← Nat.mul_add,Nat.mod_add_div]
   have b3:4294967296 ^ j*(a*(vL (us.take i)+4294967296 ^ i*b))=4294967296 ^ j*(a*vL (us.take i))+4294967296 ^ (j+i)*(a*b):=by
    rw [Nat.pow_add];grind
   rw [b3]
   simp only [Nat.mul_add] at b2
   omega)
  refine ⟨r, .more (OF ?_) a1,a6⟩
  clear a1 a6 aE O J b1
  have bD:=NJ I out j a c G n k us us.length i
  have e1:(j:Int)+(i:Int)=((j+i:Nat):Int):=by omega
  have c3:ah .i64 ((i:Int)+1)=true:=aJ (by omega)
  have c4:ah .i64 ((j+i:Nat):Int)=true:=aJ (by omega)
  rw [e1,Int.toNat_natCast,Int.toNat_natCast,b7,Nat.zero_add,Nat.mul_one,ch,c3,c4,dT (show (i:Int) < us.length by omega),dT (show (0:Int)≤(i:Int) by omega),dT (show (0:Int)≤((j+i:Nat):Int) by omega),dT (show ((j+i:Nat):Int) < (out.length:Int) by omega),dT U,
   di (show 0≤(a:Int)∧(a:Int)≤18446744073709551615 by omega),di (show 0≤(b:Int)∧(b:Int)≤18446744073709551615 by omega),di (show 0≤(o:Int)∧(o:Int)≤18446744073709551615 by omega),
   ← Int.natCast_mul,sc,Nat.mod_eq_of_lt (show a*b < 18446744073709551616 by omega),← Int.natCast_add,sc,Nat.mod_eq_of_lt (show a*b+o < 18446744073709551616 by omega),← Int.natCast_add,sc,Nat.mod_eq_of_lt (show c+(a*b+o) < 18446744073709551616 by omega),dG,jq] at bD
  rw [bD]
  unfold jc iE
  rw [List.length_set]
  rfl
theorem YN (I zs:List Int) (j x c:Int) (G:List Int) (n k:Int) (us:List Int) (m i:Int) (h:vd I zs j x c G n k us m i):∃ r:Int×Int×List Int,aA Tryz.prog (lb 109 gx) (jc I zs j x c G n k us m i) (iE I zs j x c G n k us m i) (.exit 2) (jc I r.2.2 j x r.1 G n k us m r.2.1) (iE I r.2.2 j x r.1 G n k us m r.2.1)∧DO I zs j x c G n k us m i r:=by
 obtain ⟨aE,J,a1,U,Z,rfl,rfl,rfl,ab,j,rfl,M⟩:=h
 obtain ⟨a,ha,rfl⟩:=jI ab
 obtain ⟨z,a6,_,O⟩:=cE J (j+us.length) M
 have:=ac2 I G us n k U j a zs.length (vL zs) z ha Z M us.length 0 0 zs (by omega) J rfl (by omega) O ⟨by simp [cC]⟩
 rw [← O] at this
 exact this
def Gv (aE:List Int→List Int→Int→Int→Int→List Int→Int→Int→List Int→Int→Int→Bool) (Z:List Int→List Int→Int→Int→Int→List Int→Int→Int→List Int→Int→Int→Int×Int×List Int) (T:List AV) (H:Hp):Option (Bool×Ex×List AV×Hp):=
 match al T 1,al T 5,al T 6,al T 7,al T 8,al T 17,al T 18,al T 19,al T 24,al T 25,al T 26,H with
 | .lst false 129 U J, .sl false 129 0 0 ab, .val (.int .i64 j), .val (.int .u32 x), .val (.int .u64 c), .lst false 129 O I, .val (.int .i64 n), .val (.int .i64 k), .lst false 129 M G, .val (.int .i64 m), .val (.int .i64 i), [.row (.ints .u32 zs) 129 .live]=>bif T.length==67 then some (okB U J&&okB O I&&okB M G&&decide (ab=zs.length)&&aE (rowOf U J) zs j x c (rowOf O I) n k (rowOf M G) m i, .exit 2,jc (rowOf U J) ((Z (rowOf U J) zs j x c (rowOf O I) n k (rowOf M G) m i).2.2) j x ((Z (rowOf U J) zs j x c (rowOf O I) n k (rowOf M G) m i).1) (rowOf O I) n k (rowOf M G) m ((Z (rowOf U J) zs j x c (rowOf O I) n k (rowOf M G) m i).2.1),iE (rowOf U J) ((Z (rowOf U J) zs j x c (rowOf O I) n k (rowOf M G) m i).2.2) j x ((Z (rowOf U J) zs j x c (rowOf O I) n k (rowOf M G) m i).1) (rowOf O I) n k (rowOf M G) m ((Z (rowOf U J) zs j x c (rowOf O I) n k (rowOf M G) m i).2.1)) else none
 | _,_,_,_,_,_,_,_,_,_,_,_=>none
abbrev A2:Type:=List Int→List Int→Int→Int→Int→List Int→Int→Int→List Int→Int→Int→Bool
abbrev AI:Type:=List Int→List Int→Int→Int→Int→List Int→Int→Int→List Int→Int→Int→Int×Int×List Int
def IK (G:A2) (I:AI) (L:aD):aD:=bu 0 109 gx [1,5,6,7,8,17,18,19,24,25,26] (Gv G I) L
def jY (I zs:List Int) (j x c:Int) (G:List Int) (n k:Int) (us:List Int) (m i:Int):Int×Int×List Int:=Classical.epsilon fun ρ=>aA Tryz.prog (lb 109 gx) (jc I zs j x c G n k us m i) (iE I zs j x c G n k us m i) (.exit 2) (jc I (ρ.2.2) j x (ρ.1) G n k us m (ρ.2.1)) (iE I (ρ.2.2) j x (ρ.1) G n k us m (ρ.2.1))∧DO I zs j x c G n k us m i ρ
theorem MY (I zs:List Int) (j x c:Int) (G:List Int) (n k:Int) (us:List Int) (m i:Int) (h:vd I zs j x c G n k us m i):aA Tryz.prog (lb 109 gx) (jc I zs j x c G n k us m i) (iE I zs j x c G n k us m i) (.exit 2) (jc I ((jY I zs j x c G n k us m i).2.2) j x ((jY I zs j x c G n k us m i).1) G n k us m ((jY I zs j x c G n k us m i).2.1)) (iE I ((jY I zs j x c G n k us m i).2.2) j x ((jY I zs j x c G n k us m i).1) G n k us m ((jY I zs j x c G n k us m i).2.1))∧DO I zs j x c G n k us m i (jY I zs j x c G n k us m i):=Classical.epsilon_spec (YN I zs j x c G n k us m i h)
def tn (I zs:List Int) (j x c:Int) (G:List Int) (n k:Int) (us:List Int) (m i:Int):Bool:= @decide (vd I zs j x c G n k us m i) (Classical.propDecidable _)
theorem UD (I zs:List Int) (j x c:Int) (G:List Int) (n k:Int) (us:List Int) (m i:Int) (h:vd I zs j x c G n k us m i):tn I zs j x c G n k us m i=true:= @decide_eq_true _ (Classical.propDecidable _) h
theorem adN (T:List AV) (H:Hp) (e:Ex) (J:List AV) (I:Hp) (h:Gv tn jY T H=some (true,e,J,I)):V.Ends Tryz.prog false 0 0 (.loop (lb 109 gx)) T H e J I:=by
 unfold Gv at h
 split at h
 ·rename_i c5 ab c6 j x c c4 Z n k c3 U m i zs aE b1 b2 b3 b4 a1 a6 a7 bx bD b0
  rw [Bool.cond_eq_ite] at h
  split at h
  ·rename_i M
   rw [beq_iff_eq] at M
   simp only [Option.some.injEq,Prod.mk.injEq,Bool.and_eq_true,decide_eq_true_eq] at h
   obtain ⟨⟨⟨⟨⟨k1,b6⟩,b7⟩,ch⟩,ct⟩,rfl,rfl,rfl⟩:=h
   have c0:= @of_decide_eq_true _ (Classical.propDecidable _) ct
   refine Ends.pre (MY (rowOf c5 ab) zs j x c (rowOf c4 Z) n k (rowOf c3 U) m i c0).1.ends (fun α B w D c7 b5=>bw M (fun p O y G=> ?_) b5)
   simp only [List.mem_cons,List.not_mem_nil,or_false] at O
   rcases O with rfl | rfl | rfl | rfl | rfl | rfl | rfl | rfl | rfl | rfl | rfl
   ·rw [aE] at G;rw [cz];exact cB cr k1 G
   ·rw [b1] at G;rw [← ch];exact G
   ·rw [b2] at G;exact G
   ·rw [b3] at G;exact G
   ·rw [b4] at G;exact G
   ·rw [a1] at G;rw [cz];exact cB cr b6 G
   ·rw [a6] at G;exact G
   ·rw [a7] at G;exact G
   ·rw [bx] at G;rw [cz];exact cB cr b7 G
   ·rw [bD] at G;exact G
   ·rw [b0] at G;exact G
  ·cases h
 ·cases h
theorem QJ {L:aD} (h:aC Tryz.prog L):aC Tryz.prog (IK tn jY L):=h.bC RX adN
def Hk (G:A2) (I:AI):Env:= ⟨aM,az,IK G I aq⟩
abbrev gy:List Bool:= [false,true,false,true,true]
def jf (I zs G:List Int) (n i:Int):List AV:=ao 67 [(1, .lst false 129 I.length (lim I)),(5, .sl false 129 0 0 zs.length),(17, .lst false 129 G.length (lim G)),(18, .val (.int .i64 n)),(19, .val (.int .i64 i))]
def iF (I zs G:List Int) (n i:Int):Hp:= [.row (.ints .u32 zs) 129 .live]
theorem RY:aI Tryz.prog 109 gy=some (.loop (lb 109 gy)):=by kernel_rfl
theorem TM:aI Tryz.prog 109 (false :: gy)=some (lb 109 gy):=by kernel_rfl
theorem NK (O:A2) (U:AI) (I zs G:List Int) (n i:Int):letI J:=(rowOf I.length (lim I));letI M:=(U J zs i (G.getD i.toNat (0:Int)) (0:Int) (rowOf G.length (lim G)) n i J (↑I.length:Int) (0:Int));
  (aP Tryz.prog (Hk O U) 109 [1,5,17,18,19] (lb 109 gy) (false :: gy) (jf I zs G n i) (iF I zs G n i)=(bif decide (i < n) then (bif decide ((0:Int)≤i)&&decide (i < (↑G.length:Int)) then (bif okB I.length (lim I)&&okB G.length (lim G)&&okB I.length (lim I)&&decide (zs.length=zs.length)&&O J zs i (G.getD i.toNat (0:Int)) (0:Int) (rowOf G.length (lim G)) n i J (↑I.length:Int) (0:Int) then (bif ah IntKind.i64 (i+(↑J.length:Int)) then (bif decide ((0:Int)≤i+(↑J.length:Int))&&decide (i+(↑J.length:Int) < (↑M.snd.snd.length:Int)) then (bif decide (0+(i+(↑J.length:Int)).toNat*1 < M.snd.snd.length) then (bif ah IntKind.i64 (i+(1:Int)) then some (.normal,ao 67 [(1,(.lst false 129 (J.length) (lim J))),(5,(.sl false 129 0 0 (M.snd.snd.length))),(17,(.lst false 129 ((rowOf G.length (lim G)).length) (lim (rowOf G.length (lim G))))),(18,(.val (.int .i64 n))),(19,(.val (.int .i64 (i+(1:Int)))))], [(.row (.ints .u32 (M.snd.snd.set (0+(i+(↑J.length:Int)).toNat*1) (IntKind.u32.wrap M.fst))) 129 .live)]) else none) else none) else none) else none) else none) else none) else some ((.exit 0),ao 67 [(1,(.lst false 129 I.length (lim I))),(5,(.sl false 129 0 0 zs.length)),(17,(.lst false 129 G.length (lim G))),(18,(.val (.int .i64 n))),(19,(.val (.int .i64 i)))], [(.row (.ints .u32 zs) 129 .live)]))):=by kernel_rfl
theorem OG {I zs G:List Int} {n i:Int} {e:Ex} {T:List AV} {H:Hp} (h:aP Tryz.prog (Hk tn jY) 109 [1,5,17,18,19] (lb 109 gy) (false :: gy) (jf I zs G n i) (iF I zs G n i)=some (e,T,H)):V.Ends Tryz.prog false 0 0 (lb 109 gy) (jf I zs G n i) (iF I zs G n i) e T H:=
 bK (aK _) (QJ aC.none).ok mixed TM h
def vf (I zs G:List Int) (n i:Int):Prop:=
 aH I∧aH G∧G.length+I.length≤17592186044416∧n=G.length∧i=0∧zs=List.replicate (G.length+I.length) 0
def DP (I zs G:List Int) (n i:Int) (r:Int×List Int):Prop:=aH r.2∧r.2.length=G.length+I.length∧vL r.2=vL G*vL I
theorem adS (G I:List Int) (a1:aH G) (aE:aH I) (hb:I.length+G.length≤17592186044416) (d:Nat):∀ (i:Nat) (out:List Int),i+d=I.length→aH out→out.length=I.length+G.length→vL out=vL (I.take i)*vL G→
  ∃ r:Int×List Int,aA Tryz.prog (lb 109 gy) (jf G out I I.length i) (iF G out I I.length i) (.exit 0) (jf G r.2 I I.length r.1) (iF G r.2 I I.length r.1)∧
   aH r.2∧r.2.length=I.length+G.length∧vL r.2=vL I*vL G:=by
 induction d with
 | zero=>
  intro i out hi J b1 M
  have c4:i=I.length:=by omega
  subst c4
  refine ⟨((I.length:Int),out), .last (OG ?_) (by intro h;cases h),J,b1, ?_⟩
  ·rw [NK,dF (show ¬ ((I.length:Int) < I.length) by omega)]
   rfl
  ·rw [List.take_length] at M
   exact M
 | succ d b5=>
  intro i out hi J b1 M
  have b0:i < I.length:=by omega
  obtain ⟨a,ha,ct,c6⟩:=cE aE i b0
  have b4:=kE I i b0
  rw [ct,Int.toNat_natCast] at b4
  have b2:=dQ (nR aE i)
  rw [List.length_take,Nat.min_eq_left (by omega)] at b2
  have c5:=dQ a1
  have dx:out.getD (i+G.length) 0=0:=by
   obtain ⟨o,ec,c0,c7⟩:=cE J (i+G.length) (by omega)
   have U:=Lm J (i+G.length) (by omega)
   have Z:vL (I.take i)*vL G < 4294967296 ^ i*4294967296 ^ G.length:=Nat.mul_lt_mul'' b2 c5
   rw [c0,Int.toNat_natCast] at U
   rw [← Nat.pow_add,← M] at Z
   have ch:o=0:=by
    rcases Nat.eq_zero_or_pos o with a7 | a7
    ·exact a7
    ·have:=Nat.le_mul_of_pos_right (4294967296 ^ (i+G.length)) a7
     omega
   rw [c7,ch];rfl
  have b3:vd G out i a 0 I I.length i G G.length 0:= ⟨a1,J,aE,a1,by omega,rfl,rfl,rfl,fx ha,i,rfl,by omega⟩
  obtain ⟨_,c1,c2,bD,q,b6,b7,a6⟩:=MY _ _ _ _ _ _ _ _ _ _ _ b3
  have ab:=NK tn jY G out I I.length i
  simp only [j4,Nat.mul_one,Nat.zero_add,Int.toNat_natCast,c6,eq_self,decide_true] at ab
  rw [UD _ _ _ _ _ _ _ _ _ _ _ b3] at ab
  generalize jY G out i a 0 I I.length i G G.length 0=r at*
  rw [Int.toNat_natCast] at bD a6
  rw [Int.toNat_natCast] at a6
  have bx:i+G.length < r.2.2.length:=by omega
  have O:=oi r.2.2 (i+G.length) bx (q:Int)
  have c3:r.2.2[i+G.length]=0:=by
   rw [← dx,← bD,List.getD_eq_getElem?_getD,List.getElem?_eq_getElem bx];rfl
  rw [c3] at O
  simp only [Int.toNat_natCast,Int.toNat_zero,Nat.mul_zero,Nat.add_zero] at O
  obtain ⟨eb,U,Z⟩:=b5 (i+1) (r.2.2.set (i+G.length) (q:Int)) (by omega) (fy c1 _ _ (by omega) (by omega)) (by rw [List.length_set];omega) (by
   rw [O,a6,M,b4];grind)
  refine ⟨eb, .more (OG ?_) U,Z⟩
  clear U Z b5 O
  have e1:(i:Int)+(G.length:Int)=((i+G.length:Nat):Int):=by omega
  have dy:ah .i64 ((i:Int)+1)=true:=aJ (by omega)
  have ea:ah .i64 ((i+G.length:Nat):Int)=true:=aJ (by omega)
  rw [iJ a1,iJ aE,e1,Int.toNat_natCast,dy,ea,dT (show (i:Int) < I.length by omega),dT (show (0:Int)≤(i:Int) by omega),dT (show (0:Int)≤((i+G.length:Nat):Int) by omega),dT (show ((i+G.length:Nat):Int) < (r.2.2.length:Int) by omega),dT bx,b7,dG,Nat.mod_eq_of_lt b6] at ab
  rw [ab]
  unfold jf iF
  rw [List.length_set]
  rfl
theorem YO (I zs G:List Int) (n i:Int) (h:vf I zs G n i):∃ r:Int×List Int,aA Tryz.prog (lb 109 gy) (jf I zs G n i) (iF I zs G n i) (.exit 0) (jf I r.2 G n r.1) (iF I r.2 G n r.1)∧DP I zs G n i r:=by
 obtain ⟨J,M,O,rfl,rfl,rfl⟩:=h
 exact adS I G J M O G.length 0 _ (by omega) (kO _) (by simp) (by rw [GJ];simp [cC])
def Gw (Z:List Int→List Int→List Int→Int→Int→Bool) (O:List Int→List Int→List Int→Int→Int→Int×List Int) (T:List AV) (H:Hp):Option (Bool×Ex×List AV×Hp):=
 match al T 1,al T 5,al T 17,al T 18,al T 19,H with
 | .lst false 129 M I, .sl false 129 0 0 U, .lst false 129 J G, .val (.int .i64 n), .val (.int .i64 i), [.row (.ints .u32 zs) 129 .live]=>bif T.length==67 then some (okB M I&&okB J G&&decide (U=zs.length)&&Z (rowOf M I) zs (rowOf J G) n i, .exit 0,jf (rowOf M I) ((O (rowOf M I) zs (rowOf J G) n i).2) (rowOf J G) n ((O (rowOf M I) zs (rowOf J G) n i).1),iF (rowOf M I) ((O (rowOf M I) zs (rowOf J G) n i).2) (rowOf J G) n ((O (rowOf M I) zs (rowOf J G) n i).1)) else none
 | _,_,_,_,_,_=>none
abbrev A3:Type:=List Int→List Int→List Int→Int→Int→Bool
abbrev AJ:Type:=List Int→List Int→List Int→Int→Int→Int×List Int
def IL (G:A3) (I:AJ) (L:aD):aD:=bu 0 109 gy [1,5,17,18,19] (Gw G I) L
def lL (I zs G:List Int) (n i:Int):Int×List Int:=Classical.epsilon fun ρ=>aA Tryz.prog (lb 109 gy) (jf I zs G n i) (iF I zs G n i) (.exit 0) (jf I (ρ.2) G n (ρ.1)) (iF I (ρ.2) G n (ρ.1))∧DP I zs G n i ρ
theorem MZ (I zs G:List Int) (n i:Int) (h:vf I zs G n i):aA Tryz.prog (lb 109 gy) (jf I zs G n i) (iF I zs G n i) (.exit 0) (jf I ((lL I zs G n i).2) G n ((lL I zs G n i).1)) (iF I ((lL I zs G n i).2) G n ((lL I zs G n i).1))∧DP I zs G n i (lL I zs G n i):=Classical.epsilon_spec (YO I zs G n i h)
def tq (I zs G:List Int) (n i:Int):Bool:= @decide (vf I zs G n i) (Classical.propDecidable _)
theorem UE (I zs G:List Int) (n i:Int) (h:vf I zs G n i):tq I zs G n i=true:= @decide_eq_true _ (Classical.propDecidable _) h
theorem adO (T:List AV) (H:Hp) (e:Ex) (J:List AV) (I:Hp) (h:Gw tq lL T H=some (true,e,J,I)):V.Ends Tryz.prog false 0 0 (.loop (lb 109 gy)) T H e J I:=by
 unfold Gw at h
 split at h
 ·rename_i b4 Z b5 b3 U n i zs ab a7 aE a1 a6
  rw [Bool.cond_eq_ite] at h
  split at h
  ·rename_i M
   rw [beq_iff_eq] at M
   simp only [Option.some.injEq,Prod.mk.injEq,Bool.and_eq_true,decide_eq_true_eq] at h
   obtain ⟨⟨⟨⟨k1,bD⟩,b0⟩,b1⟩,rfl,rfl,rfl⟩:=h
   have b2:= @of_decide_eq_true _ (Classical.propDecidable _) b1
   refine Ends.pre (MZ (rowOf b4 Z) zs (rowOf b3 U) n i b2).1.ends (fun α B w D b6 bx=>bw M (fun p O y G=> ?_) bx)
   simp only [List.mem_cons,List.not_mem_nil,or_false] at O
   rcases O with rfl | rfl | rfl | rfl | rfl
   ·rw [ab] at G;rw [cz];exact cB cr k1 G
   ·rw [a7] at G;rw [← b0];exact G
   ·rw [aE] at G;rw [cz];exact cB cr bD G
   ·rw [a1] at G;exact G
   ·rw [a6] at G;exact G
  ·cases h
 ·cases h
theorem QK {L:aD} (h:aC Tryz.prog L):aC Tryz.prog (IL tq lL L):=h.bC RY adO
def Hl (S:Sg) (G:A3) (I:AJ):Env:= ⟨CT S,az,IL G I aq⟩
theorem ac1 (S:Sg) (O:A3) (U:AJ) (G I:List Int):letI M:=((↑G.length:Int)+(↑I.length:Int));letI J:=(U (rowOf I.length (lim I)) (List.replicate M.toNat (0:Int)) (rowOf G.length (lim G)) (↑G.length:Int) (0:Int));
  (aG Tryz.prog (Hl S O U) 10 10 109 [.lst false 129 G.length (lim G), .lst false 129 I.length (lim I)]=(bif ah IntKind.i64 M then (bif decide ((↑G.length:Int)+(↑I.length:Int)≤(↑G.length:Int)+(↑I.length:Int))&&decide ((4:Int)*M≤(281474976710656:Int))&&decide ((↑G.length:Int)+(↑I.length:Int)≤(9223372036854775807:Int)) then (bif okB I.length (lim I)&&okB G.length (lim G)&&decide (M.toNat=(List.replicate M.toNat (0:Int)).length)&&O (rowOf I.length (lim I)) (List.replicate M.toNat (0:Int)) (rowOf G.length (lim G)) (↑G.length:Int) (0:Int) then (bif decide (0+J.snd.length*1≤J.snd.length) then (bif S.bR J.snd.length (lim J.snd) then some (.lst false 129 (S.len (S.num J.snd.length (lim J.snd))) (S.row (S.num J.snd.length (lim J.snd)))) else none) else none) else none) else none) else none)):=by kernel_rfl
def zM (S:Sg) (args:List AV):Option (Bool×AV):=match args with | [.lst _ 129 m f, .lst _ 129 n g]=>some (S.br m f&&S.br n g,S.fP (S.num m f*S.num n g)) | _=>none
theorem Kc:Entry Tryz.prog 109 (zM aa):=by
 refine il (E:=Hl aa tq lL) (u:=10) (d:=10) sr (QK aC.none).ok (by kernel_rfl) (fun args r h=> ?_)
 unfold zM at h
 split at h
 ·rename_i fl m f b3 n g
  simp only [Option.some.injEq,Prod.mk.injEq,Bool.and_eq_true,decide_eq_true_eq] at h
  obtain ⟨⟨a6,a7⟩,rfl⟩:=h
  obtain ⟨U,J,b1,Z⟩:=rr a6
  obtain ⟨ab,M,b2,aE⟩:=rr a7
  have O:vf (rowOf n g) (List.replicate ((rowOf m f).length+(rowOf n g).length) 0) (rowOf m f) (rowOf m f).length 0:= ⟨M,J,by omega,rfl,rfl,rfl⟩
  obtain ⟨_,c1,c2,a1⟩:=MZ _ _ _ _ _ O
  have G:=ac1 aa tq lL (rowOf m f) (rowOf n g)
  have e1:((rowOf m f).length:Int)+((rowOf n g).length:Int)=(((rowOf m f).length+(rowOf n g).length:Nat):Int):=by omega
  simp only [j4,Nat.mul_one,Nat.zero_add,e1,Int.toNat_natCast,List.length_replicate,eq_self,decide_true] at G
  rw [UE _ _ _ _ _ O] at G
  generalize lL (rowOf n g) (List.replicate ((rowOf m f).length+(rowOf n g).length) 0) (rowOf m f) (rowOf m f).length 0=r at*
  rw [iJ J,iJ M,bB _ (by omega),dT (show (((rowOf m f).length+(rowOf n g).length:Nat):Int)≤(((rowOf m f).length+(rowOf n g).length:Nat):Int) by omega),dT (show (4:Int)*(((rowOf m f).length+(rowOf n g).length:Nat):Int)≤281474976710656 by omega),dT (show (((rowOf m f).length+(rowOf n g).length:Nat):Int)≤9223372036854775807 by omega),dT (show r.2.length≤r.2.length by omega),lD c1 (by omega),lB,a1] at G
  refine ⟨_,_,G,fun B w b4 I=> ?_,fun B w y I=>by rw [Z,aE];exact I⟩
  obtain ⟨y,zs,rfl,q1,q2⟩:=I
  obtain ⟨b0,zs,rfl,bx,bD⟩:=q2
  exact ⟨y,_,rfl,kN U q1,b0,_,rfl,kN ab bx,bD⟩
 ·cases h
end
end Go.Proofs.YtamcpiicmfielaaGreat.L
namespace Go.Proofs.YtamcpiicmfielaaGreat.L
open Go Go.V Go.RowKit Go.Proofs.YtamcpiicmfielaaGreat.Sp Go.Proofs.YtamcpiicmfielaaGreat.F Go.Proofs.YtamcpiicmfielaaGreatW.PrintWords
open Go.Proofs (Tryz.prog)
noncomputable section
abbrev fV:List Bool:= [false,true,false,true,true,true]
def j8 (v n i:Int) (b:Bool) (s:ByteArray):List AV:=ao 30 [(1, .ptr 0 0),(4, .val (.int .i64 v)),(12, .val (.int .i64 n)),(13, .val (.int .i64 i))]
def jx (v n i:Int) (b:Bool) (s:ByteArray):Hp:= [.row (.cells [.val (.bool b), .val (.string s)]) 81 .live]
theorem Rz:aI Tryz.prog 117 fV=some (.loop (lb 117 fV)):=by kernel_rfl
theorem Th:aI Tryz.prog 117 (false :: fV)=some (lb 117 fV):=by kernel_rfl
theorem Nq (v n i:Int) (b:Bool) (s:ByteArray):aP Tryz.prog bg 117 [1,4,12,13] (lb 117 fV) (false :: fV) (j8 v n i b s) (jx v n i b s)=
  (bif decide (i < n) then (bif ah IntKind.i64 (v*(256:Int)) then (bif decide ((0:Int)≤i)&&decide (i < (↑s.size:Int)) then (bif ah IntKind.i64 (aT s i.toNat) then (bif ah IntKind.i64 (i+(1:Int)) then some (.normal,ao 30 [(1,(.ptr 0 0)),(4,(.val (.int .i64 (b9 BinOp.or IntKind.i64 (v*(256:Int)) (aT s i.toNat))))),(12,(.val (.int .i64 n))),(13,(.val (.int .i64 (i+(1:Int)))))], [(.row (.cells [(.val (.bool b)),(.val (.string s))]) 81 .live)]) else none) else none) else none) else none) else some ((.exit 0),ao 30 [(1,(.ptr 0 0)),(4,(.val (.int .i64 v))),(12,(.val (.int .i64 n))),(13,(.val (.int .i64 i)))], [(.row (.cells [(.val (.bool b)),(.val (.string s))]) 81 .live)])):=by kernel_rfl
theorem Oi {v n i:Int} {b:Bool} {s:ByteArray} {e:Ex} {T:List AV} {H:Hp} (h:aP Tryz.prog bg 117 [1,4,12,13] (lb 117 fV) (false :: fV) (j8 v n i b s) (jx v n i b s)=some (e,T,H)):V.Ends Tryz.prog false 0 0 (lb 117 fV) (j8 v n i b s) (jx v n i b s) e T H:=
 bK (aK _) aO mixed Th h
def uJ (v n i:Int) (b:Bool) (s:ByteArray):Prop:=s.size≤7∧n=s.size∧v=0∧i=0
def yC (v n i:Int) (b:Bool) (s:ByteArray) (r:Int×Int):Prop:=r.1=(vS s:Nat)
theorem qa (s:ByteArray) (i:Nat) (h:i < s.size):(vB (s.data.toList.take (i+1)):Int)=(vB (s.data.toList.take i):Int)*256+aT s i:=by
 have G:i < s.data.toList.length:=by rw [Array.length_toList];exact h
 rw [List.take_succ_eq_append_getElem G,vZ]
 unfold aT
 rw [List.getD_eq_getElem?_getD,List.getElem?_eq_getElem G,Option.getD_some]
 omega
theorem ZC (v b:Nat) (M:v < 36028797018963968) (hb:b < 256):b9 .or .i64 ((v:Int)*256) (b:Int)=((v*256+b:Nat):Int):=by
 have G:Go.bits .or .i64 ((v*256:Nat):Int) ((b:Nat):Int)=((v*256+b:Nat):Int):=by
  have:=bits_join .i64 63 (by decide) (fun n I J=>by rw [IntKind.wrap_i64];omega) 8 ((v*256:Nat):Int) ((b:Nat):Int) (by omega) (by omega) (by omega) (by omega) (by omega) (by omega)
  rw [this];omega
 rw [Int.natCast_mul] at G
 exact G
theorem XX (s:ByteArray) (b:Bool) (Z:s.size≤7) (d:Nat):∀ i:Nat,i+d=s.size→∃ r:Int×Int,aA Tryz.prog (lb 117 fV) (j8 (vB (s.data.toList.take i):Nat) s.size i b s) (jx (vB (s.data.toList.take i):Nat) s.size i b s) (.exit 0) (j8 r.1 s.size r.2 b s) (jx r.1 s.size r.2 b s)∧r.1=(vS s:Nat):=by
 induction d with
 | zero=>
  intro i hi
  have M:i=s.size:=by omega
  subst M
  have e:s.data.toList.take s.size=s.data.toList:=List.take_of_length_le (by rw [Array.length_toList];exact Nat.le_refl _)
  refine ⟨((vB (s.data.toList.take s.size):Nat),(s.size:Int)), .last (Oi ?_) (by intro h;cases h),by rw [e];rfl⟩
  rw [Nq,dF (show ¬ ((s.size:Int) < s.size) by omega)]
  rfl
 | succ d U=>
  intro i hi
  obtain ⟨r,I,J⟩:=U (i+1) (by omega)
  refine ⟨r, .more (Oi ?_) I,J⟩
  rw [Nq]
  have hb:=lj s i
  have ab:vB (s.data.toList.take i) < 256 ^ 6:=by
   refine Nat.lt_of_lt_of_le (oh _) (Nat.pow_le_pow_right (by decide) ?_)
   rw [List.length_take,Array.length_toList]
   have:s.data.size=s.size:=rfl
   omega
  have O:=qa s i (by omega)
  obtain ⟨c,G⟩:∃ c:Nat,aT s i=c:= ⟨(aT s i).toNat,by omega⟩
  rw [G] at hb O
  rw [Int.toNat_natCast,G,ZC _ _ (by omega) (by omega),aJ (show -9223372036854775808≤((vB (s.data.toList.take i):Nat):Int)*256∧((vB (s.data.toList.take i):Nat):Int)*256≤9223372036854775807 by omega),aJ (show -9223372036854775808≤(c:Int)∧(c:Int)≤9223372036854775807 by omega),aJ (show -9223372036854775808≤(i:Int)+1∧(i:Int)+1≤9223372036854775807 by omega),dT (show (i:Int) < s.size by omega),dT (show (0:Int)≤(i:Int) by omega)]
  have e:vB (s.data.toList.take (i+1))=vB (s.data.toList.take i)*256+c:=by omega
  rw [e]
  rfl
theorem Yp (v n i:Int) (b:Bool) (s:ByteArray) (h:uJ v n i b s):∃ r:Int×Int,aA Tryz.prog (lb 117 fV) (j8 v n i b s) (jx v n i b s) (.exit 0) (j8 r.1 n r.2 b s) (jx r.1 n r.2 b s)∧yC v n i b s r:=by
 obtain ⟨G,rfl,rfl,rfl⟩:=h
 exact XX s b G s.size 0 (by omega)
def F5 (I:Int→Int→Int→Bool→ByteArray→Bool) (G:Int→Int→Int→Bool→ByteArray→Int×Int) (T:List AV) (H:Hp):Option (Bool×Ex×List AV×Hp):=
 match al T 1,al T 4,al T 12,al T 13,H with
 | .ptr 0 0, .val (.int .i64 v), .val (.int .i64 n), .val (.int .i64 i), [.row (.cells [.val (.bool b), .val (.string s)]) 81 .live]=>bif T.length==30 then some (I v n i b s, .exit 0,j8 ((G v n i b s).1) n ((G v n i b s).2) b s,jx ((G v n i b s).1) n ((G v n i b s).2) b s) else none
 | _,_,_,_,_=>none
abbrev wy:Type:=Int→Int→Int→Bool→ByteArray→Bool
abbrev wv:Type:=Int→Int→Int→Bool→ByteArray→Int×Int
def Ix (G:wy) (I:wv) (L:aD):aD:=bu 0 117 fV [1,4,12,13] (F5 G I) L
def nW (v n i:Int) (b:Bool) (s:ByteArray):Int×Int:=Classical.epsilon fun ρ=>aA Tryz.prog (lb 117 fV) (j8 v n i b s) (jx v n i b s) (.exit 0) (j8 (ρ.1) n (ρ.2) b s) (jx (ρ.1) n (ρ.2) b s)∧yC v n i b s ρ
theorem MC (v n i:Int) (b:Bool) (s:ByteArray) (h:uJ v n i b s):aA Tryz.prog (lb 117 fV) (j8 v n i b s) (jx v n i b s) (.exit 0) (j8 ((nW v n i b s).1) n ((nW v n i b s).2) b s) (jx ((nW v n i b s).1) n ((nW v n i b s).2) b s)∧yC v n i b s (nW v n i b s):=Classical.epsilon_spec (Yp v n i b s h)
def xq (v n i:Int) (b:Bool) (s:ByteArray):Bool:= @decide (uJ v n i b s) (Classical.propDecidable _)
theorem JH (v n i:Int) (b:Bool) (s:ByteArray) (h:uJ v n i b s):xq v n i b s=true:= @decide_eq_true _ (Classical.propDecidable _) h
theorem adp (T:List AV) (H:Hp) (e:Ex) (J:List AV) (I:Hp) (h:F5 xq nW T H=some (true,e,J,I)):V.Ends Tryz.prog false 0 0 (.loop (lb 117 fV)) T H e J I:=by
 unfold F5 at h
 split at h
 ·rename_i v n i b s U aE Z ab
  rw [Bool.cond_eq_ite] at h
  split at h
  ·rename_i M
   rw [beq_iff_eq] at M
   simp only [Option.some.injEq,Prod.mk.injEq,Bool.and_eq_true,decide_eq_true_eq] at h
   obtain ⟨k1,rfl,rfl,rfl⟩:=h
   have a6:= @of_decide_eq_true _ (Classical.propDecidable _) k1
   refine Ends.pre (MC v n i b s a6).1.ends (fun α B w D a7 a1=>bw M (fun p O y G=> ?_) a1)
   simp only [List.mem_cons,List.not_mem_nil,or_false] at O
   rcases O with rfl | rfl | rfl | rfl
   ·rw [U] at G;exact G
   ·rw [aE] at G;exact G
   ·rw [Z] at G;exact G
   ·rw [ab] at G;exact G
  ·cases h
 ·cases h
theorem Qn {L:aD} (h:aC Tryz.prog L):aC Tryz.prog (Ix xq nW L):=h.bC Rz adp
def An (G:wy) (I:wv):Env:= ⟨aM,az,Ix G I aq⟩
theorem Lo (G:wy) (I:wv) (s:ByteArray):aG Tryz.prog (An G I) 10 10 117 [.agg [.val (.bool true), .val (.string s)]]=
  (bif decide ((7:Int) < (↑s.size:Int)) then some (.tup [(.val (.int .i64 0)),(.val (.bool false))]) else (bif G (0:Int) (↑s.size:Int) (0:Int) true s then some (.tup [(.val (.int .i64 (IntKind.i64.wrap ((0:Int) - (I (0:Int) (↑s.size:Int) (0:Int) true s).fst)))),(.val (.bool true))]) else none)):=by kernel_rfl
theorem Ln (G:wy) (I:wv) (s:ByteArray):aG Tryz.prog (An G I) 10 10 117 [.agg [.val (.bool false), .val (.string s)]]=
  (bif decide ((7:Int) < (↑s.size:Int)) then some (.tup [(.val (.int .i64 0)),(.val (.bool false))]) else (bif G (0:Int) (↑s.size:Int) (0:Int) false s then some (.tup [(.val (.int .i64 ((I (0:Int) (↑s.size:Int) (0:Int) false s).fst))),(.val (.bool true))]) else none)):=by kernel_rfl
structure Sl where
 b:Bool→ByteArray→Bool
 v:Bool→ByteArray→Int
def ku:Sl where
 b _ s:=decide (s.size≤7)
 v b s:=if s.size≤7 then Sp.val b s else 0
def Fu (G:Sl) (args:List AV):Option (Bool×AV):=match args with | [.agg [.val (.bool b), .val (.string s)]]=>some (decide (s.size≤140737488355328), .tup [.val (.int .i64 (G.v b s)), .val (.bool (G.b b s))]) | _=>none
theorem qc {s:ByteArray} (h:s.size≤7):vS s < 72057594037927936:=Nat.lt_of_lt_of_le (k9 s) (Nat.pow_le_pow_right (by decide:0 < 256) h)
theorem VD:Entry Tryz.prog 117 (Fu ku):=by
 refine aZ (E:=An xq nW) (u:=10) (d:=10) (aK _) (Qn aC.none).ok mixed (by kernel_rfl) (fun args r h=> ?_)
 unfold Fu at h
 split at h
 ·rename_i b s
  simp only [Option.some.injEq,Prod.mk.injEq,decide_eq_true_eq] at h
  obtain ⟨hb,rfl⟩:=h
  by_cases G:s.size≤7
  ·have M:uJ 0 s.size 0 b s:= ⟨G,rfl,rfl,rfl⟩
   have J:=(MC _ _ _ _ _ M).2
   have O:=qc G
   unfold yC at J
   have e1:ku.v b s=val b s:=if_pos G
   have I:ku.b b s=true:=decide_eq_true G
   rw [e1,I]
   cases b with
   | true=>
    rw [Lo,JH _ _ _ _ _ M,J,dF (show ¬ ((7:Int) < s.size) by omega)]
    refine congrArg some ?_
    have e:IntKind.i64.wrap (0 - ((vS s:Nat):Int))= -((vS s:Nat):Int):=by rw [IntKind.wrap_i64];omega
    show AV.tup [AV.val (.int .i64 (IntKind.i64.wrap (0 - ((vS s:Nat):Int)))),_]=_
    rw [e]
    rfl
   | false=>
    rw [Ln,JH _ _ _ _ _ M,J,dF (show ¬ ((7:Int) < s.size) by omega)]
    rfl
  ·have e1:ku.v b s=0:=if_neg G
   have I:ku.b b s=false:=decide_eq_false G
   rw [e1,I]
   cases b with
   | true=>rw [Lo,dT (show (7:Int) < s.size by omega)];rfl
   | false=>rw [Ln,dT (show (7:Int) < s.size by omega)];rfl
 ·cases h
def CA (S:Sg) (G:Sl):FuncId→List AV→Option (Bool×AV):=
 au 117 (Fu G) (au 106 (vN S) (au 108 (zu S) (au 109 (zM S) (au 118 (zw S) (au 119 (Fv S) (au 107 (vM S) (au 69 (kC S) aM)))))))
theorem GP:bf Tryz.prog (CA aa ku):=((((((((aK _).add xD).add B6).add VF).add JX).add Kc).add B8).add B7).add VD
def EA (S:Sg) (G:Sl):Env:= ⟨CA S G,az,aq⟩
theorem Za (S:Sg) (G:Sl) (b c:Bool) (s t:ByteArray):aG Tryz.prog (EA S G) 10 10 65 [.agg [.val (.bool b), .val (.string s)], .agg [.val (.bool c), .val (.string t)]]=
  (bif S.ok s then (bif S.ok t then (bif S.br (S.len (S.vs s)) (S.row (S.vs s))&&S.br (S.len (S.vs t)) (S.row (S.vs t)) then (bif S.bR (S.len (S.num (S.len (S.vs s)) (S.row (S.vs s))*S.num (S.len (S.vs t)) (S.row (S.vs t)))) (S.row (S.num (S.len (S.vs s)) (S.row (S.vs s))*S.num (S.len (S.vs t)) (S.row (S.vs t)))) then some (.agg [(.val (.bool (S.ng (S.sg (bif true then !b==c else b==c) (S.num (S.len (S.num (S.len (S.vs s)) (S.row (S.vs s))*S.num (S.len (S.vs t)) (S.row (S.vs t)))) (S.row (S.num (S.len (S.vs s)) (S.row (S.vs s))*S.num (S.len (S.vs t)) (S.row (S.vs t))))))))),(.val (.string (S.ms (S.sg (bif true then !b==c else b==c) (S.num (S.len (S.num (S.len (S.vs s)) (S.row (S.vs s))*S.num (S.len (S.vs t)) (S.row (S.vs t)))) (S.row (S.num (S.len (S.vs s)) (S.row (S.vs s))*S.num (S.len (S.vs t)) (S.row (S.vs t)))))))))]) else none) else none) else none) else none):=by kernel_rfl
theorem QS (S:Sg) (G:Sl) (b c:Bool) (s t:ByteArray):letI I:=(S.num (S.len (S.vs s)) (S.row (S.vs s))+S.num (S.len (S.vs t)) (S.row (S.vs t)));letI J:=(S.num (S.len (S.vs t)) (S.row (S.vs t)) - S.num (S.len (S.vs s)) (S.row (S.vs s)));letI M:=(S.num (S.len (S.vs s)) (S.row (S.vs s)) - S.num (S.len (S.vs t)) (S.row (S.vs t)));letI O:Option AV:=(bif S.ok s then (bif S.ok t then (bif bif false then !b==c else b==c then (bif S.br (S.len (S.vs s)) (S.row (S.vs s))&&S.br (S.len (S.vs t)) (S.row (S.vs t)) then (bif S.bR (S.len I) (S.row I) then some (.agg [(.val (.bool (S.ng (S.sg b (S.num (S.len I) (S.row I)))))),(.val (.string (S.ms (S.sg b (S.num (S.len I) (S.row I))))))]) else none) else none) else (bif S.can (S.len (S.vs s)) (S.row (S.vs s))&&S.can (S.len (S.vs t)) (S.row (S.vs t)) then (bif decide (S.cmp (S.num (S.len (S.vs s)) (S.row (S.vs s))) (S.num (S.len (S.vs t)) (S.row (S.vs t))) < (0:Int)) then (bif S.can (S.len (S.vs t)) (S.row (S.vs t))&&S.can (S.len (S.vs s)) (S.row (S.vs s))&&decide (S.num (S.len (S.vs s)) (S.row (S.vs s))≤S.num (S.len (S.vs t)) (S.row (S.vs t))) then (bif S.bR (S.len J) (S.row J) then some (.agg [(.val (.bool (S.ng (S.sg c (S.num (S.len J) (S.row J)))))),(.val (.string (S.ms (S.sg c (S.num (S.len J) (S.row J))))))]) else none) else none) else (bif S.can (S.len (S.vs s)) (S.row (S.vs s))&&S.can (S.len (S.vs t)) (S.row (S.vs t))&&decide (S.num (S.len (S.vs t)) (S.row (S.vs t))≤S.num (S.len (S.vs s)) (S.row (S.vs s))) then (bif S.bR (S.len M) (S.row M) then some (.agg [(.val (.bool (S.ng (S.sg b (S.num (S.len M) (S.row M)))))),(.val (.string (S.ms (S.sg b (S.num (S.len M) (S.row M))))))]) else none) else none)) else none)) else none) else none);
  (aG Tryz.prog (EA S G) 10 10 75 [.agg [.val (.bool b), .val (.string s)], .agg [.val (.bool c), .val (.string t)]]=(bif decide (s.size≤140737488355328) then (bif G.b b s then (bif decide (t.size≤140737488355328) then (bif G.b c t then (bif ah IntKind.i64 (G.v b s+G.v c t) then (bif cW (G.v b s+G.v c t) then some (.agg [(.val (.bool (S.ng (G.v b s+G.v c t)))),(.val (.string (S.ms (G.v b s+G.v c t))))]) else none) else none) else O) else none) else O) else none)):=by kernel_rfl
def r7 (S:Sg) (args:List AV):Option (Bool×AV):=match args with | [.agg [.val (.bool b), .val (.string s)], .agg [.val (.bool c), .val (.string t)]]=>some (S.ok s&&S.ok t,S.int (S.val b s*S.val c t)) | _=>none
def kB (S:Sg) (args:List AV):Option (Bool×AV):=match args with | [.agg [.val (.bool b), .val (.string s)], .agg [.val (.bool c), .val (.string t)]]=>some (S.ok s&&S.ok t,S.int (S.val b s+S.val c t)) | _=>none
def r9 (S:Sg) (args:List AV):Option (Bool×AV):=match args with | [.agg [.val (.bool b), .val (.string s)], .agg [.val (.bool c), .val (.string t)]]=>some (S.ok s&&S.ok t,S.int (S.val b s - S.val c t)) | _=>none
theorem nT {s:ByteArray} (h:aa.ok s=true):bs (aa.vs s)≤8796093022208:=Nat.le_trans (oG s) (of_decide_eq_true h)
theorem VG:Entry Tryz.prog 65 (r7 aa):=by
 refine aZ (E:=EA aa ku) (u:=10) (d:=10) GP aO mixed (by kernel_rfl) (fun args r h=> ?_)
 unfold r7 at h
 split at h
 ·rename_i b s c t
  simp only [Option.some.injEq,Prod.mk.injEq,Bool.and_eq_true] at h
  obtain ⟨⟨I,J⟩,rfl⟩:=h
  have k1:=nT I
  have M:=nT J
  have O:=wS (aa.vs s) (aa.vs t)
  have G:=Za aa ku b c s t
  simp only [my] at G
  rw [I,J,ru k1,ru M,rq (by omega)] at G
  rw [G]
  refine congrArg some ?_
  show aa.int (aa.sg _ (aa.vs s*aa.vs t))=_
  refine congrArg aa.int ?_
  show (if _ then -((vS s*vS t:Nat):Int) else ((vS s*vS t:Nat):Int))=Sp.val b s*Sp.val c t
  unfold Sp.val
  cases b <;> cases c <;> simp [Int.neg_mul,Int.mul_neg]
 ·cases h
theorem IT (b c:Bool) (s t:ByteArray) (J:aa.ok s=true) (M:aa.ok t=true) (X:Option AV):
  X=(bif aa.ok s then bif aa.ok t then bif b==c then (bif aa.br (aa.len (aa.vs s)) (aa.row (aa.vs s))&&aa.br (aa.len (aa.vs t)) (aa.row (aa.vs t)) then bif aa.bR (aa.len (aa.vs s+aa.vs t)) (aa.row (aa.vs s+aa.vs t)) then some (aa.int (aa.sg b (aa.vs s+aa.vs t))) else none else none)
   else (bif aa.can (aa.len (aa.vs s)) (aa.row (aa.vs s))&&aa.can (aa.len (aa.vs t)) (aa.row (aa.vs t)) then
    bif decide (aa.cmp (aa.vs s) (aa.vs t) < 0) then (bif aa.can (aa.len (aa.vs t)) (aa.row (aa.vs t))&&aa.can (aa.len (aa.vs s)) (aa.row (aa.vs s))&&decide (aa.vs s≤aa.vs t) then bif aa.bR (aa.len (aa.vs t - aa.vs s)) (aa.row (aa.vs t - aa.vs s)) then some (aa.int (aa.sg c (aa.vs t - aa.vs s))) else none else none)
    else (bif aa.can (aa.len (aa.vs s)) (aa.row (aa.vs s))&&aa.can (aa.len (aa.vs t)) (aa.row (aa.vs t))&&decide (aa.vs t≤aa.vs s) then bif aa.bR (aa.len (aa.vs s - aa.vs t)) (aa.row (aa.vs s - aa.vs t)) then some (aa.int (aa.sg b (aa.vs s - aa.vs t))) else none else none)
    else none) else none else none)→X=some (aa.int (aa.val b s+aa.val c t)):=by
 intro O
 have k1:=nT J
 have ab:=nT M
 have aE:=sI (aa.vs s) (aa.vs t)
 have a1:=I8 (aa.vs s) (aa.vs t)
 have a6:=I8 (aa.vs t) (aa.vs s)
 rw [J,M] at O
 rw [O]
 have G:∀ (b:Bool) (s:ByteArray),aa.val b s=if b=true then -(aa.vs s:Int) else (aa.vs s:Int):=fun b s=>rfl
 by_cases I:b=c
 ·subst I
  rw [beq_self_eq_true,ru k1,ru ab,rq (by omega)]
  show some (aa.int (if b=true then -((aa.vs s+aa.vs t:Nat):Int) else ((aa.vs s+aa.vs t:Nat):Int)))=_
  rw [G,G]
  cases b
  ·simp
  ·simp only [if_true];congr 2;omega
 ·rw [beq_eq_false_iff_ne.2 I,wZ (by omega),wZ (by omega)]
  have U:∀ a b:Nat,aa.cmp a b=if a < b then -1 else if b < a then 1 else 0:=fun a b=>rfl
  by_cases Z:aa.vs s < aa.vs t
  ·rw [U,if_pos Z,rq (n:=aa.vs t - aa.vs s) (by omega),dT (show aa.vs s≤aa.vs t by omega)]
   show some (aa.int (if c=true then -((aa.vs t - aa.vs s:Nat):Int) else ((aa.vs t - aa.vs s:Nat):Int)))=_
   rw [G,G]
   congr 2
   cases b <;> cases c <;> first | exact absurd rfl I | (simp only [if_true,Bool.false_eq_true,if_false];omega)
  ·rw [U,if_neg Z,rq (n:=aa.vs s - aa.vs t) (by omega),dT (show aa.vs t≤aa.vs s by omega),dF (show ¬ ((if aa.vs t < aa.vs s then (1:Int) else 0) < 0) by split <;> omega)]
   show some (aa.int (if b=true then -((aa.vs s - aa.vs t:Nat):Int) else ((aa.vs s - aa.vs t:Nat):Int)))=_
   rw [G,G]
   congr 2
   cases b <;> cases c <;> first | exact absurd rfl I | (simp only [if_true,Bool.false_eq_true,if_false];omega)
theorem xB:Entry Tryz.prog 75 (kB aa):=by
 refine aZ (E:=EA aa ku) (u:=10) (d:=10) GP aO mixed (by kernel_rfl) (fun args r h=> ?_)
 unfold kB at h
 split at h
 ·rename_i b s c t
  simp only [Option.some.injEq,Prod.mk.injEq,Bool.and_eq_true] at h
  obtain ⟨⟨I,J⟩,rfl⟩:=h
  have z1:s.size≤8796093022208:=of_decide_eq_true I
  have z2:t.size≤8796093022208:=of_decide_eq_true J
  have G:=QS aa ku b c s t
  simp only [my] at G
  rw [dT (show s.size≤140737488355328 by omega),dT (show t.size≤140737488355328 by omega)] at G
  have e1:∀ b s,ku.b b s=decide (s.size≤7):=fun b s=>rfl
  have M:∀ b s,ku.v b s=if s.size≤7 then aa.val b s else 0:=fun b s=>rfl
  rw [e1,e1,M,M] at G
  by_cases q1:s.size≤7
  ·by_cases q2:t.size≤7
   ·have O:=qc q1
    have U:=qc q2
    have c1:(aa.val b s).natAbs < 72057594037927936:=by rw [← la];exact O
    have c2:(aa.val c t).natAbs < 72057594037927936:=by rw [← la];exact U
    rw [dT q1,dT q2,if_pos q1,if_pos q2,aJ (show -9223372036854775808≤aa.val b s+aa.val c t∧aa.val b s+aa.val c t≤9223372036854775807 by omega)] at G
    unfold cW at G
    rw [dT (show -9223372036854775808≤aa.val b s+aa.val c t by omega),dT (show aa.val b s+aa.val c t≤9223372036854775807 by omega)] at G
    exact G
   ·rw [dT q1,dF q2] at G
    exact IT b c s t I J _ G
  ·rw [dF q1] at G
   exact IT b c s t I J _ G
 ·cases h
def EB (S:Sg):Env:= ⟨au 75 (kB S) aM,az,aq⟩
theorem acR (S:Sg) (b c:Bool) (s t:ByteArray):aG Tryz.prog (EB S) 10 10 153 [.agg [.val (.bool b), .val (.string s)], .agg [.val (.bool c), .val (.string t)]]=
  (bif S.ok s&&S.ok t then some (.agg [(.val (.bool (S.ng (S.val b s+S.val (!c) t)))),(.val (.string (S.ms (S.val b s+S.val (!c) t))))]) else none):=by kernel_rfl
theorem V4:Entry Tryz.prog 153 (r9 aa):=by
 refine aZ (E:=EB aa) (u:=10) (d:=10) ((aK _).add xB) aO mixed (by kernel_rfl) (fun args r h=> ?_)
 unfold r9 at h
 split at h
 ·rename_i b s c t
  simp only [Option.some.injEq,Prod.mk.injEq,Bool.and_eq_true] at h
  obtain ⟨⟨I,J⟩,rfl⟩:=h
  have G:=acR aa b c s t
  rw [I,J,show aa.val (!c) t= -aa.val c t from Ps c t,← Int.sub_eq_add_neg] at G
  exact G
 ·cases h
end
end Go.Proofs.YtamcpiicmfielaaGreat.L
namespace Go.Proofs.YtamcpiicmfielaaGreat.L
open Go Go.V Go.RowKit Go.Proofs.YtamcpiicmfielaaGreat.Sp Go.Proofs.YtamcpiicmfielaaGreat.F Go.Proofs.YtamcpiicmfielaaGreatW.PrintWords
open Go.Proofs (Tryz.prog)
noncomputable section
def np:Env:= ⟨aM,az,aq⟩
def tQ:ByteArray:= ⟨⟨[0,1] ++ List.replicate 2 2 ++ List.replicate 4 3 ++ List.replicate 8 4 ++ List.replicate 16 5 ++ List.replicate 32 6 ++ List.replicate 64 7 ++ List.replicate 128 8⟩⟩
def qW (c y:Int):Option AV:=bif decide (0≤IntKind.u8.wrap y)&&decide (IntKind.u8.wrap y < 256) then bif ah .i64 (aT tQ (IntKind.u8.wrap y).toNat) then bif ah .i64 (c+aT tQ (IntKind.u8.wrap y).toNat) then some (.val (.int .i64 (c+aT tQ (IntKind.u8.wrap y).toNat))) else none else none else none
theorem XI (x:Int):aG Tryz.prog np 10 10 150 [.val (.int .u32 x)]=(bif decide (65536≤x) then bif decide (256≤x.fdiv 65536) then qW 24 ((x.fdiv 65536).fdiv 256) else qW 16 (x.fdiv 65536) else bif decide (256≤x) then qW 8 (x.fdiv 256) else qW 0 x):=by kernel_rfl
theorem XJ:∀ i:Fin 256,aT tQ i.val=(aU i.val:Int):=by decide +kernel
theorem ya (c y n:Nat) (I:y < 256) (O:c≤24) (U:y=0→c=0∧n=0) (h:nq y (aU y)→nq n (c+aU y)):qW c y=some (.val (.int .i64 (aU n))):=by
 have G:=XJ ⟨y,I⟩
 have G:aT tQ y=(aU y:Int):=G
 have M:=BD (n:=y) (m:=8) I
 have J:=(h (lh y)).uniq (lh n)
 unfold qW
 rw [sd,show ((y:Int) % 256)=(y:Int) by omega,Int.toNat_natCast,G,dT (show (0:Int)≤y by omega),dT (show (y:Int) < 256 by omega),aJ (show -9223372036854775808≤(aU y:Int)∧(aU y:Int)≤9223372036854775807 by omega),aJ (show -9223372036854775808≤(c:Int)+(aU y:Int)∧(c:Int)+(aU y:Int)≤9223372036854775807 by omega),← J,Int.natCast_add]
 rfl
def Fq (S:Sg) (args:List AV):Option (Bool×AV):=match args with | [.val (.int .u32 x)]=>some (bV x, .val (.int .i64 (S.bl x.toNat))) | _=>none
theorem VA:Entry Tryz.prog 150 (Fq aa):=by
 refine aZ (E:=np) (u:=10) (d:=10) (aK _) aO mixed (by kernel_rfl) (fun args r h=> ?_)
 unfold Fq at h
 split at h
 ·rename_i x
  simp only [Option.some.injEq,Prod.mk.injEq] at h
  obtain ⟨J,rfl⟩:=h
  obtain ⟨n,M,rfl⟩:=jI J
  rw [XI]
  show _=some (AV.val (.int .i64 ((aU (n:Int).toNat:Nat):Int)))
  rw [Int.toNat_natCast]
  have e1:(n:Int).fdiv 65536=((n / 65536:Nat):Int):=gM n 65536
  have G:(n:Int).fdiv 256=((n / 256:Nat):Int):=gM n 256
  have I:((n / 65536:Nat):Int).fdiv 256=((n / 65536 / 256:Nat):Int):=gM _ 256
  rw [e1,G,I]
  by_cases c1:65536≤n
  ·rw [dT (show (65536:Int)≤n by omega)]
   by_cases c2:256≤n / 65536
   ·rw [dT (show (256:Int)≤((n / 65536:Nat):Int) by omega)]
    exact ya 24 (n / 65536 / 256) n (by omega) (by omega) (by omega) (fun h=>xZ 24 (by omega) (by omega) h)
   ·rw [dF (show ¬ (256:Int)≤((n / 65536:Nat):Int) by omega)]
    exact ya 16 (n / 65536) n (by omega) (by omega) (by omega) (fun h=>xZ 16 (by omega) (by omega) h)
  ·rw [dF (show ¬ (65536:Int)≤n by omega)]
   by_cases c2:256≤n
   ·rw [dT (show (256:Int)≤(n:Int) by omega)]
    exact ya 8 (n / 256) n (by omega) (by omega) (by omega) (fun h=>xZ 8 (by omega) (by omega) h)
   ·rw [dF (show ¬ (256:Int)≤(n:Int) by omega)]
    exact ya 0 n n (by omega) (by omega) (by omega) (fun h=>by rw [Nat.zero_add];exact h)
 ·cases h
def qi (S:Sg):FuncId→List AV→Option (Bool×AV):=au 150 (Fq S) aM
theorem abN (S:Sg) (G:List Int):aG Tryz.prog ⟨qi S,az,aq⟩ 10 10 157 [.lst false 129 G.length (lim G)]=
  (bif decide ((↑G.length:Int)=(0:Int)) then some (.val (.int .i64 0)) else (bif ah IntKind.i64 ((↑G.length:Int) - (1:Int)) then (bif ah IntKind.i64 ((32:Int)*((↑G.length:Int) - (1:Int))) then (bif ah IntKind.i64 ((↑G.length:Int) - (1:Int)) then (bif decide ((0:Int)≤(↑G.length:Int) - (1:Int))&&decide ((↑G.length:Int) - (1:Int) < (↑G.length:Int)) then (bif bV (G.getD ((↑G.length:Int) - (1:Int)).toNat (0:Int)) then (bif ah IntKind.i64 ((32:Int)*((↑G.length:Int) - (1:Int))+(↑(S.bl (G.getD ((↑G.length:Int) - (1:Int)).toNat (0:Int)).toNat):Int)) then some (.val (.int .i64 ((32:Int)*((↑G.length:Int) - (1:Int))+(↑(S.bl (G.getD ((↑G.length:Int) - (1:Int)).toNat (0:Int)).toNat):Int)))) else none) else none) else none) else none) else none) else none)):=by kernel_rfl
def FF (S:Sg) (args:List AV):Option (Bool×AV):=match args with | [.lst _ 129 m f]=>some (S.can m f, .val (.int .i64 (S.bl (S.num m f)))) | _=>none
theorem GV:bf Tryz.prog (qi aa):=(aK _).add VA
theorem BC (n m:Nat) (h:n < 2 ^ m):aa.bl n≤m:=BD h
theorem V3:Entry Tryz.prog 157 (FF aa):=by
 refine il (E:= ⟨qi aa,az,aq⟩) (u:=10) (d:=10) GV aO (by kernel_rfl) (fun args r h=> ?_)
 unfold FF at h
 split at h
 ·rename_i fl m f
  simp only [Option.some.injEq,Prod.mk.injEq] at h
  obtain ⟨bD,rfl⟩:=h
  obtain ⟨a7,b3,bx,b4,I⟩:=sL bD
  have b2:aG Tryz.prog ⟨qi aa,az,aq⟩ 10 10 157 [.lst false 129 (rowOf m f).length (lim (rowOf m f))]=some (.val (.int .i64 (aa.bl (aa.num m f)))):=by
   rw [abN]
   rw [I]
   generalize b5:aa.num m f=N at*
   have hb:(toL N).length≤17592186044416:=by rw [← I];exact bx
   by_cases J:N=0
   ·subst J
    rw [toL_zero]
    rfl
   ·have aE:toL N≠ []:=fun e=>J ((toL_nil_iff N).1 e)
    have b6:0 < (toL N).length:=List.length_pos_iff.2 aE
    have e1:((toL N).length:Int) - 1=(((toL N).length - 1:Nat):Int):=by omega
    have Z:(toL N).length - 1 < (toL N).length:=by omega
    obtain ⟨t,a1,U,b0⟩:=cE (jN N) _ Z
    have b1:0 < t:=by
     have:=GD N aE
     rw [List.getLast_eq_getElem,U] at this
     omega
    have a6:=nm (toL N) ((toL N).length - 1) (by omega)
    rw [List.drop_eq_getElem_cons Z,U,List.drop_of_length_le (by omega),b8,cC,cX,Int.toNat_natCast,Nat.mul_zero,Nat.add_zero] at a6
    have ab:=dQ (nR (jN N) ((toL N).length - 1))
    rw [List.length_take,Nat.min_eq_left (by omega)] at ab
    have O:=Rb b1 ab
    rw [← a6] at O
    have M:=BC t 32 a1
    have M:aU t≤32:=M
    rw [e1,Int.toNat_natCast,b0,dF (show ¬ ((toL N).length:Int)=0 by omega),bB _ (by omega),aJ (show -9223372036854775808≤(32:Int)*(((toL N).length - 1:Nat):Int)∧(32:Int)*(((toL N).length - 1:Nat):Int)≤9223372036854775807 by omega),dT (show (0:Int)≤(((toL N).length - 1:Nat):Int) by omega),dT (show (((toL N).length - 1:Nat):Int) < ((toL N).length:Int) by omega),fx a1,Int.toNat_natCast]
    show (bif ah .i64 ((32:Int)*(((toL N).length - 1:Nat):Int)+(aU t:Int)) then some (AV.val (.int .i64 ((32:Int)*(((toL N).length - 1:Nat):Int)+(aU t:Int)))) else none)=some (AV.val (.int .i64 (aU N:Int)))
    rw [aJ (show -9223372036854775808≤(32:Int)*(((toL N).length - 1:Nat):Int)+(aU t:Int)∧(32:Int)*(((toL N).length - 1:Nat):Int)+(aU t:Int)≤9223372036854775807 by omega),O]
    simp
  refine ⟨_,_,b2,fun B w b7 G=> ?_,fun B w y G=>G⟩
  obtain ⟨y,zs,rfl,q1,q2⟩:=G
  exact ⟨y,_,rfl,kN a7 q1,q2⟩
 ·cases h
theorem Xs (S:Sg) (x:Int):aG Tryz.prog ⟨qi S,az,aq⟩ 10 10 170 [.val (.int .u32 x)]=
  (bif bV x then (bif ah IntKind.i64 ((32:Int) - (↑(S.bl x.toNat):Int)) then some (.val (.int .i64 ((32:Int) - (↑(S.bl x.toNat):Int)))) else none) else none):=by kernel_rfl
theorem US (x y z:Int):aG Tryz.prog np 10 10 174 [.val (.int .u32 x), .val (.int .u32 y), .val (.int .u32 z)]=
  (bif !decide (z=(0:Int)) then (bif decide (z≤x) then none else (bif ah IntKind.u64 x then (bif ah IntKind.u64 y then (bif ah IntKind.u64 z then (bif decide (z=(0:Int)) then none else (bif ah IntKind.u64 z then (bif decide (z=(0:Int)) then none else some (.tup [(.val (.int .u32 (IntKind.u32.wrap (IntKind.u64.wrap ((b9 BinOp.or IntKind.u64 (IntKind.u64.wrap (x*(4294967296:Int))) y).tdiv z))))),(.val (.int .u32 (IntKind.u32.wrap ((b9 BinOp.or IntKind.u64 (IntKind.u64.wrap (x*(4294967296:Int))) y).tmod z))))])) else none)) else none) else none) else none)) else (bif ah IntKind.u64 x then (bif ah IntKind.u64 y then (bif ah IntKind.u64 z then (bif decide (z=(0:Int)) then none else (bif ah IntKind.u64 z then (bif decide (z=(0:Int)) then none else some (.tup [(.val (.int .u32 (IntKind.u32.wrap (IntKind.u64.wrap ((b9 BinOp.or IntKind.u64 (IntKind.u64.wrap (x*(4294967296:Int))) y).tdiv z))))),(.val (.int .u32 (IntKind.u32.wrap ((b9 BinOp.or IntKind.u64 (IntKind.u64.wrap (x*(4294967296:Int))) y).tmod z))))])) else none)) else none) else none) else none)):=by kernel_rfl
theorem QR (x y z:Int):aG Tryz.prog np 10 10 175 [.val (.int .u32 x), .val (.int .u32 y), .val (.int .u32 z)]=
  (bif ah IntKind.u64 x then (bif ah IntKind.u64 y then (bif ah IntKind.u64 z then some (.tup [(.val (.int .u32 (IntKind.u32.wrap (IntKind.u64.wrap (IntKind.u64.wrap (x+y)+z))))),(.val (.int .u32 (IntKind.u32.wrap ((IntKind.u64.wrap (IntKind.u64.wrap (x+y)+z)).fdiv (4294967296:Int)))))]) else none) else none) else none):=by kernel_rfl
end
end Go.Proofs.YtamcpiicmfielaaGreat.L
